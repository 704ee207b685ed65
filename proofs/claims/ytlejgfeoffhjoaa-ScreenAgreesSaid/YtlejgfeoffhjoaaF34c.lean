/- Displays: put, text. -/
import Derived.Test.YtlejgfeoffhjoaaFwLem
import Derived.Test.YtlejgfeoffhjoaaF34b
namespace Go.Proofs.Ytlejgfeoffhjoaa.D
open Go.Fw Go.RowKit

/-- So many of a byte. -/
def fillS (b : UInt8) (n : Nat) : ByteArray := ⟨(List.replicate n b).toArray⟩
theorem fillS_size (b : UInt8) (n : Nat) : (fillS b n).size = n := by
  show (List.replicate n b).toArray.size = n
  simp
theorem repeat1 (b : UInt8) : ∀ n, Go.Lib.repeatL [b] n = List.replicate n b
  | 0 => rfl
  | n + 1 => by rw [Go.Lib.repeatL, repeat1 b n]; rfl
theorem fill45 (b : UInt8) (n : Nat) (hn : n ≤ 140737488351232) : Fun E 45 [.string ⟨#[b]⟩, .int .i64 n] (.string (fillS b n)) := by
  have c := repeat45 ⟨#[b]⟩ n (by omega) (by show 1 * n ≤ _; omega)
  have e : repS ⟨#[b]⟩ n = fillS b n := by
    unfold repS fillS
    rw [← repeat1]
  rwa [e] at c
def dB (n k : Nat) (i j : Int) : Blk := ⟨24, true, [.slice (some ⟨1, 0, none⟩) n n, .slice (some ⟨2, 0, none⟩) k k, .int .i64 i, .int .i64 j]⟩
def sB (l : List ByteArray) : Blk := ⟨9, true, l.map Value.string⟩
theorem strs_at0 (l : List ByteArray) (i : Nat) (hi : i < l.length) : (l.map Value.string)[0 + ((i : Int)).toNat * 1]? = some (.string (rowAt l i)) := by
  rw [Nat.zero_add]
  exact strs_at l i hi
theorem strs_flat (l : List ByteArray) : (l.map Value.string).all flat = true := by
  rw [List.all_eq_true]
  intro v hv
  obtain ⟨x, _, rfl⟩ := List.mem_map.1 hv
  rfl
theorem flat_ok {m : Nat} {l : List Value} (h : l.all flat = true) : l.all (okC m) = true := (CellsOk.flat (rl := []) fun v hv => List.all_eq_true.1 h v hv).2
theorem told_flat {E : Env} {h : Heap} {rl : List Nat} {m : Nat} : ∀ {l : List Value}, l.all flat = true → All2 (ToldC E h rl m) l l
  | [], _ => .nil
  | v :: l, hl => by
    simp only [List.all_cons, Bool.and_eq_true] at hl
    have k := CellsOk.flat (rl := rl) (m := m) (l := [v]) fun u hu => by rw [List.mem_singleton.1 hu]; exact hl.1
    refine .cons (.inl ⟨?_, ?_⟩) (told_flat hl.2)
    · simpa using k.1
    · simpa using k.2
theorem told_eq {E : Env} {h : Heap} {rl : List Nat} {m : Nat} {l l' : List Value} (e : l' = l) (hl : l.all flat = true) : All2 (ToldC E h rl m) l' l := by
  subst e
  exact told_flat hl
/-- Bytes put into a string. -/
def lay (a s : ByteArray) (c : Nat) : ByteArray := a.extract 0 c ++ s ++ a.extract (c + s.size) a.size
theorem map_set (l : List ByteArray) (k : Nat) (s : ByteArray) : (l.map Value.string).set k (.string s) = (l.set k s).map Value.string := by rw [List.map_set]
theorem mk_w (mk : Nat) (h : mk ≤ 7) : UInt8.ofNat (IntKind.u8.wrap (IntKind.i64.wrap (48 + (mk : Int)))).toNat = UInt8.ofNat (48 + mk) := by
  rw [wr _ (by omega) (by omega)]
  have e : (48 + (mk : Int)) = ((48 + mk : Nat) : Int) := by omega
  rw [e, u8_all _ (by omega)]
  rfl
theorem dsp_ok (n k : Nat) (i j : Int) (r m : List ByteArray) : ([dB n k i j, sB r, sB m]).all (fun x => x.cells.all (okC 3)) = true := by
  rw [List.all_cons, List.all_cons, List.all_cons, List.all_nil, Bool.and_true, Bool.and_eq_true, Bool.and_eq_true]
  exact ⟨rfl, flat_ok (strs_flat _), flat_ok (strs_flat _)⟩
theorem f67 : E.funcs 67 = some Try.f67 := by kernel_rfl
theorem put67 (r m : List ByteArray) (i j : Int) (k c mk : Nat) (s : ByteArray) (hk : k < r.length) (hm : k < m.length) (ha : (rowAt r k).size ≤ 80) (hb : (rowAt m k).size = (rowAt r k).size) (hc : c + s.size ≤ (rowAt r k).size) (hmk : mk ≤ 7) :
    Lent E 67 [.pointer (some ⟨0, 0, none⟩), .int .i64 k, .int .i64 c, .string s, .int .i64 mk] [dB r.length m.length i j, sB r, sB m] (.tuple #[]) [dB r.length m.length i j, sB (r.set k (lay (rowAt r k) s c)), sB (m.set k (lay (rowAt m k) (fillS (UInt8.ofNat (48 + mk)) s.size) c))] := by
  refine Lent.of f67 rfl (of_decide_eq_true (by kernel_rfl)) rfl rfl (Nat.le_refl _) rfl (dsp_ok _ _ _ _ _ _) rfl ?_
  have l1 : 0 ≤ (k : Int) ∧ (k : Int) < r.length := by omega
  have v1 := strs_at0 r k hk
  have l2 : 0 ≤ (k : Int) ∧ (k : Int) < m.length := by omega
  have v2 := strs_at0 m k hm
  have w : IntKind.i64.wrap ((c : Int) + s.size) = ((c + s.size : Nat) : Int) := by rw [wr _ (by omega) (by omega)]; omega
  have z1 : 0 ≤ (c : Int) ∧ (c : Int) ≤ (rowAt r k).size := by omega
  have y1 : 0 ≤ (c : Int) ∧ (c : Int) ≤ (rowAt m k).size := by omega
  have s1 : ((rowAt r k).extract 0 (c : Int).toNat).size ≤ 80 := by rw [ByteArray.size_extract]; omega
  have s2 : ((rowAt m k).extract 0 (c : Int).toNat).size ≤ 80 := by rw [ByteArray.size_extract]; omega
  have t1 : ((rowAt r k).extract (IntKind.i64.wrap ((c : Int) + s.size)).toNat (rowAt r k).size).size ≤ 80 := by rw [ByteArray.size_extract]; omega
  have t2 : ((rowAt m k).extract (IntKind.i64.wrap ((c : Int) + s.size)).toNat (rowAt m k).size).size ≤ 80 := by rw [ByteArray.size_extract]; omega
  have z2 : ((((rowAt r k).extract 0 (c : Int).toNat).size + s.size : Nat) : Int) ≤ 9223372036854775807 := by omega
  have y2 : ((((rowAt m k).extract 0 (c : Int).toNat).size + (fillS (UInt8.ofNat (48 + mk)) s.size).size : Nat) : Int) ≤ 9223372036854775807 := by rw [fillS_size]; omega
  have z3 : 0 ≤ IntKind.i64.wrap ((c : Int) + s.size) ∧ IntKind.i64.wrap ((c : Int) + s.size) ≤ (rowAt r k).size := by rw [w]; omega
  have y3 : 0 ≤ IntKind.i64.wrap ((c : Int) + s.size) ∧ IntKind.i64.wrap ((c : Int) + s.size) ≤ (rowAt m k).size := by rw [w]; omega
  have z4 : ((((rowAt r k).extract 0 (c : Int).toNat ++ s).size + ((rowAt r k).extract (IntKind.i64.wrap ((c : Int) + s.size)).toNat (rowAt r k).size).size : Nat) : Int) ≤ 9223372036854775807 := by rw [ByteArray.size_append]; omega
  have y4 : ((((rowAt m k).extract 0 (c : Int).toNat ++ fillS (UInt8.ofNat (48 + mk)) s.size).size + ((rowAt m k).extract (IntKind.i64.wrap ((c : Int) + s.size)).toNat (rowAt m k).size).size : Nat) : Int) ≤ 9223372036854775807 := by rw [ByteArray.size_append, fillS_size]; omega
  have z5 : true = true ∧ 0 + (k : Int).toNat * 1 + [Value.string ((rowAt r k).extract 0 (c : Int).toNat ++ s ++ (rowAt r k).extract (IntKind.i64.wrap ((c : Int) + s.size)).toNat (rowAt r k).size)].length ≤ (r.map Value.string).length := by
    simp only [List.length_map, List.length_singleton, true_and]; omega
  have y5 : true = true ∧ 0 + (k : Int).toNat * 1 + [Value.string ((rowAt m k).extract 0 (c : Int).toNat ++ fillS (UInt8.ofNat (48 + mk)) s.size ++ (rowAt m k).extract (IntKind.i64.wrap ((c : Int) + s.size)).toNat (rowAt m k).size)].length ≤ (m.map Value.string).length := by
    simp only [List.length_map, List.length_singleton, true_and]; omega
  have c0 : Fun E 45 [.string ⟨#[UInt8.ofNat (IntKind.u8.wrap (IntKind.i64.wrap (48 + (mk : Int)))).toNat]⟩, .int .i64 s.size] (.string (fillS (UInt8.ofNat (48 + mk)) s.size)) := by
    rw [mk_w mk hmk]
    exact fill45 _ _ (by omega)
  unfold dB sB
  refine Wp.seq ?_
  refine Wp.region (by kernel_rfl) ?_
  refine kp 10 (.pointer (some ⟨0, 0, none⟩)) ?_
  refine kp 11 (.pointer (some ⟨0, 0, none⟩)) ?_
  refine kp 12 (.pointer (some ⟨0, 0, none⟩)) ?_
  refine kp 13 (.slice (some ⟨1, 0, none⟩) (List.length r) (List.length r)) ?_
  refine kp 14 (.int IntKind.i64 (↑k : Int)) ?_
  refine kp 15 (.pointer (some ⟨0, 0, none⟩)) ?_
  refine kp 16 (.pointer (some ⟨0, 0, none⟩)) ?_
  refine kp 17 (.pointer (some ⟨0, 0, none⟩)) ?_
  refine kp 18 (.slice (some ⟨1, 0, none⟩) (List.length r) (List.length r)) ?_
  refine kp 19 (.int IntKind.i64 (↑k : Int)) ?_
  refine kp 20 (.pointer (some (Addr.mk 1 (0 + Int.toNat (↑k : Int) * 1) none))) ?_ (hop := fun _ => o_indexAddr (a := (↑k : Int)) (bl := 1) (off := 0) (size := 1) 9 (List.length r) l1)
  refine kp 21 (.string (rowAt r k)) ?_ (hop := fun _ => o_load1 1 (0 + Int.toNat (↑k : Int) * 1) v1)
  refine kp 22 (.int IntKind.i64 (↑c : Int)) ?_
  refine kp 23 (.string (ByteArray.extract (rowAt r k) 0 (Int.toNat (↑c : Int)))) ?_ (hop := fun _ => o_cut_hi z1)
  refine kp 24 (.string s) ?_
  refine kp 25 (.string (ByteArray.extract (rowAt r k) 0 (Int.toNat (↑c : Int)) ++ s)) ?_ (hop := fun _ => o_add z2)
  refine kp 26 (.pointer (some ⟨0, 0, none⟩)) ?_
  refine kp 27 (.pointer (some ⟨0, 0, none⟩)) ?_
  refine kp 28 (.pointer (some ⟨0, 0, none⟩)) ?_
  refine kp 29 (.slice (some ⟨1, 0, none⟩) (List.length r) (List.length r)) ?_
  refine kp 30 (.int IntKind.i64 (↑k : Int)) ?_
  refine kp 31 (.pointer (some (Addr.mk 1 (0 + Int.toNat (↑k : Int) * 1) none))) ?_ (hop := fun _ => o_indexAddr (a := (↑k : Int)) (bl := 1) (off := 0) (size := 1) 9 (List.length r) l1)
  refine kp 32 (.string (rowAt r k)) ?_ (hop := fun _ => o_load1 1 (0 + Int.toNat (↑k : Int) * 1) v1)
  refine kp 33 (.int IntKind.i64 (↑c : Int)) ?_
  refine kp 34 (.string s) ?_
  refine kp 35 (.int IntKind.i64 (↑(ByteArray.size s) : Int)) ?_
  refine kp 36 (.int IntKind.i64 (IntKind.wrap .i64 ((↑c : Int) + (↑(ByteArray.size s) : Int)))) ?_
  refine kp 37 (.string (ByteArray.extract (rowAt r k) (Int.toNat (IntKind.wrap .i64 ((↑c : Int) + (↑(ByteArray.size s) : Int)))) (ByteArray.size (rowAt r k)))) ?_ (hop := fun _ => o_cut_lo z3)
  refine kp 38 (.string (ByteArray.extract (rowAt r k) 0 (Int.toNat (↑c : Int)) ++ s ++ ByteArray.extract (rowAt r k) (Int.toNat (IntKind.wrap .i64 ((↑c : Int) + (↑(ByteArray.size s) : Int)))) (ByteArray.size (rowAt r k)))) ?_ (hop := fun _ => o_add z4)
  refine kp 39 (.pointer (some (Addr.mk 1 (0 + Int.toNat (↑k : Int) * 1) none))) ?_ (hop := fun _ => o_indexAddr (a := (↑k : Int)) (bl := 1) (off := 0) (size := 1) 9 (List.length r) l1)
  refine ld (.tuple #[]) (1) (Blk.mk 9 true (List.set (List.map Value.string r) (0 + Int.toNat (↑k : Int) * 1) (Value.string (ByteArray.extract (rowAt r k) 0 (Int.toNat (↑c : Int)) ++ s ++ ByteArray.extract (rowAt r k) (Int.toNat (IntKind.wrap .i64 ((↑c : Int) + (↑(ByteArray.size s) : Int)))) (ByteArray.size (rowAt r k)))))) ?_ (hop := fun _ => o_store1 1 (0 + Int.toNat (↑k : Int) * 1) z5)
  refine WpOps.nil (thenK_at ?_)
  refine Wp.region (by kernel_rfl) ?_
  refine kp 40 (.pointer (some ⟨0, 0, none⟩)) ?_
  refine kp 41 (.pointer (some ⟨0, 0, none⟩)) ?_
  refine kp 42 (.pointer (some ⟨0, 1, none⟩)) ?_
  refine kp 43 (.slice (some ⟨2, 0, none⟩) (List.length m) (List.length m)) ?_
  refine kp 44 (.int IntKind.i64 (↑k : Int)) ?_
  refine kp 45 (.pointer (some ⟨0, 0, none⟩)) ?_
  refine kp 46 (.pointer (some ⟨0, 0, none⟩)) ?_
  refine kp 47 (.pointer (some ⟨0, 1, none⟩)) ?_
  refine kp 48 (.slice (some ⟨2, 0, none⟩) (List.length m) (List.length m)) ?_
  refine kp 49 (.int IntKind.i64 (↑k : Int)) ?_
  refine kp 50 (.pointer (some (Addr.mk 2 (0 + Int.toNat (↑k : Int) * 1) none))) ?_ (hop := fun _ => o_indexAddr (a := (↑k : Int)) (bl := 2) (off := 0) (size := 1) 9 (List.length m) l2)
  refine kp 51 (.string (rowAt m k)) ?_ (hop := fun _ => o_load1 2 (0 + Int.toNat (↑k : Int) * 1) v2)
  refine kp 52 (.int IntKind.i64 (↑c : Int)) ?_
  refine kp 53 (.string (ByteArray.extract (rowAt m k) 0 (Int.toNat (↑c : Int)))) ?_ (hop := fun _ => o_cut_hi y1)
  refine kp 54 (.int IntKind.i64 (↑mk : Int)) ?_
  refine kp 55 (.int IntKind.i64 (IntKind.wrap .i64 (48 + (↑mk : Int)))) ?_
  refine kp 56 (.int IntKind.u8 (IntKind.wrap .u8 (IntKind.wrap .i64 (48 + (↑mk : Int))))) ?_
  refine md 57 (.slice (some ⟨3, 0, none⟩) 1 1) (Blk.mk 5 true [Value.int .u8 (IntKind.wrap .u8 (IntKind.wrap .i64 (48 + (↑mk : Int))))]) ?_
  refine kp 58 (.string (ByteArray.mk #[UInt8.ofNat (Int.toNat (IntKind.wrap .u8 (IntKind.wrap .i64 (48 + (↑mk : Int)))))])) ?_
  refine kp 59 (.string s) ?_
  refine kp 60 (.int IntKind.i64 (↑(ByteArray.size s) : Int)) ?_
  refine fr 61 45 [Value.string (ByteArray.mk #[UInt8.ofNat (Int.toNat (IntKind.wrap .u8 (IntKind.wrap .i64 (48 + (↑mk : Int)))))]), Value.int .i64 (↑(ByteArray.size s) : Int)] ?_
  refine WpFun.of (c0) ?_
  refine kp 62 (.string (ByteArray.extract (rowAt m k) 0 (Int.toNat (↑c : Int)) ++ fillS (UInt8.ofNat (48 + mk)) (ByteArray.size s))) ?_ (hop := fun _ => o_add y2)
  refine kp 63 (.pointer (some ⟨0, 0, none⟩)) ?_
  refine kp 64 (.pointer (some ⟨0, 0, none⟩)) ?_
  refine kp 65 (.pointer (some ⟨0, 1, none⟩)) ?_
  refine kp 66 (.slice (some ⟨2, 0, none⟩) (List.length m) (List.length m)) ?_
  refine kp 67 (.int IntKind.i64 (↑k : Int)) ?_
  refine kp 68 (.pointer (some (Addr.mk 2 (0 + Int.toNat (↑k : Int) * 1) none))) ?_ (hop := fun _ => o_indexAddr (a := (↑k : Int)) (bl := 2) (off := 0) (size := 1) 9 (List.length m) l2)
  refine kp 69 (.string (rowAt m k)) ?_ (hop := fun _ => o_load1 2 (0 + Int.toNat (↑k : Int) * 1) v2)
  refine kp 70 (.int IntKind.i64 (↑c : Int)) ?_
  refine kp 71 (.string s) ?_
  refine kp 72 (.int IntKind.i64 (↑(ByteArray.size s) : Int)) ?_
  refine kp 73 (.int IntKind.i64 (IntKind.wrap .i64 ((↑c : Int) + (↑(ByteArray.size s) : Int)))) ?_
  refine kp 74 (.string (ByteArray.extract (rowAt m k) (Int.toNat (IntKind.wrap .i64 ((↑c : Int) + (↑(ByteArray.size s) : Int)))) (ByteArray.size (rowAt m k)))) ?_ (hop := fun _ => o_cut_lo y3)
  refine kp 75 (.string (ByteArray.extract (rowAt m k) 0 (Int.toNat (↑c : Int)) ++ fillS (UInt8.ofNat (48 + mk)) (ByteArray.size s) ++ ByteArray.extract (rowAt m k) (Int.toNat (IntKind.wrap .i64 ((↑c : Int) + (↑(ByteArray.size s) : Int)))) (ByteArray.size (rowAt m k)))) ?_ (hop := fun _ => o_add y4)
  refine kp 76 (.pointer (some (Addr.mk 2 (0 + Int.toNat (↑k : Int) * 1) none))) ?_ (hop := fun _ => o_indexAddr (a := (↑k : Int)) (bl := 2) (off := 0) (size := 1) 9 (List.length m) l2)
  refine ld (.tuple #[]) (2) (Blk.mk 9 true (List.set (List.map Value.string m) (0 + Int.toNat (↑k : Int) * 1) (Value.string (ByteArray.extract (rowAt m k) 0 (Int.toNat (↑c : Int)) ++ fillS (UInt8.ofNat (48 + mk)) (ByteArray.size s) ++ ByteArray.extract (rowAt m k) (Int.toNat (IntKind.wrap .i64 ((↑c : Int) + (↑(ByteArray.size s) : Int)))) (ByteArray.size (rowAt m k)))))) ?_ (hop := fun _ => o_store1 2 (0 + Int.toNat (↑k : Int) * 1) y5)
  refine WpOps.nil ?_
  refine endK_norm [] (Value.tuple #[]) (by kernel_rfl) (by kernel_rfl) ?_
  have e : (IntKind.i64.wrap ((c : Int) + s.size)).toNat = c + s.size := by rw [w]; omega
  have d1 : (r.map Value.string).set (0 + (k : Int).toNat * 1) (.string ((rowAt r k).extract 0 (c : Int).toNat ++ s ++ (rowAt r k).extract (IntKind.i64.wrap ((c : Int) + s.size)).toNat (rowAt r k).size)) = (r.set k (lay (rowAt r k) s c)).map Value.string := by
    rw [map_set, e, Nat.zero_add, Nat.mul_one, Int.toNat_natCast, Int.toNat_natCast]; rfl
  have d2 : (m.map Value.string).set (0 + (k : Int).toNat * 1) (.string ((rowAt m k).extract 0 (c : Int).toNat ++ fillS (UInt8.ofNat (48 + mk)) s.size ++ (rowAt m k).extract (IntKind.i64.wrap ((c : Int) + s.size)).toNat (rowAt m k).size)) = (m.set k (lay (rowAt m k) (fillS (UInt8.ofNat (48 + mk)) s.size) c)).map Value.string := by
    rw [map_set, e, Nat.zero_add, Nat.mul_one, Int.toNat_natCast, Int.toNat_natCast, lay, fillS_size]
  exact ⟨[0, 1, 2], by decide, by kernel_rfl, ⟨⟨_, by kernel_rfl, .cons (.inl ⟨rfl, rfl⟩) (.cons (.inl ⟨rfl, rfl⟩) (.cons (.inl ⟨rfl, rfl⟩) (.cons (.inl ⟨rfl, rfl⟩) .nil)))⟩, ⟨_, by kernel_rfl, told_eq d1 (strs_flat _)⟩, ⟨_, by kernel_rfl, told_eq d2 (strs_flat _)⟩, trivial⟩, .w (.un rfl rfl)⟩

/-! ## displays by their cells -/
def mkR (R C : Nat) (f : Nat → Nat → UInt8) : List ByteArray := (List.range R).map fun i => ⟨((List.range C).map (f i)).toArray⟩
section
variable {R C : Nat} {f g : Nat → Nat → UInt8}
theorem mkR_len : (mkR R C f).length = R := by simp [mkR]
theorem mkR_row {i : Nat} (hi : i < R) : rowAt (mkR R C f) i = ⟨((List.range C).map (f i)).toArray⟩ := by
  rw [rowAt, List.getD_eq_getElem?_getD, mkR, List.getElem?_map, List.getElem?_range hi]
  rfl
theorem mkR_size {i : Nat} (hi : i < R) : (rowAt (mkR R C f) i).size = C := by
  rw [mkR_row hi]
  show ((List.range C).map (f i)).toArray.size = C
  simp
theorem mkR_at {i j : Nat} (hi : i < R) (hj : j < C) : byteAt (rowAt (mkR R C f) i) j = f i j := by
  rw [mkR_row hi, byteAt]
  simp only [List.getD_eq_getElem?_getD, List.getElem?_map, List.getElem?_range hj, Option.map_some, Option.getD_some]
theorem bytes_ext {a b : ByteArray} (hs : a.size = b.size) (h : ∀ j, j < a.size → byteAt a j = byteAt b j) : a = b := by
  apply ByteArray.ext
  apply Array.toList_inj.1
  apply List.ext_getElem?
  intro j
  rcases Nat.lt_or_ge j a.size with hj | hj
  · rw [byteAt_get a j hj, byteAt_get b j (by omega), h j hj]
  · rw [List.getElem?_eq_none (by rw [Array.length_toList]; exact hj), List.getElem?_eq_none (by rw [Array.length_toList]; show b.size ≤ j; omega)]
theorem rows_ext {l l' : List ByteArray} (hl : l.length = l'.length) (h : ∀ i, i < l.length → rowAt l i = rowAt l' i) : l = l' := by
  apply List.ext_getElem hl
  intro i h1 h2
  have := h i h1
  rwa [rowAt, rowAt, List.getD_eq_getElem?_getD, List.getD_eq_getElem?_getD, List.getElem?_eq_getElem h1, List.getElem?_eq_getElem h2] at this
theorem mkR_of {l : List ByteArray} (hl : l.length = R) (hs : ∀ i, i < R → (rowAt l i).size = C) (hc : ∀ i j, i < R → j < C → byteAt (rowAt l i) j = f i j) : l = mkR R C f := by
  refine rows_ext (by rw [hl, mkR_len]) fun i hi => bytes_ext (by rw [hs i (by omega), mkR_size (by omega)]) fun j hj => ?_
  rw [hs i (by omega)] at hj
  rw [hc i j (by omega) hj, mkR_at (by omega) hj]
theorem mkR_congr (h : ∀ i j, i < R → j < C → f i j = g i j) : mkR R C f = mkR R C g := mkR_of mkR_len (fun i hi => mkR_size hi) fun i j hi hj => by rw [mkR_at hi hj, h i j hi hj]
theorem rowAt_set {l : List ByteArray} {k : Nat} {s : ByteArray} (hk : k < l.length) (i : Nat) : rowAt (l.set k s) i = if i = k then s else rowAt l i := by
  rw [rowAt, List.getD_eq_getElem?_getD]
  by_cases h : i = k
  · subst h
    rw [List.getElem?_set_self hk, if_pos rfl]
    rfl
  · rw [List.getElem?_set_ne (by omega), if_neg h, ← List.getD_eq_getElem?_getD]
theorem byteAt_app (a b : ByteArray) (j : Nat) : byteAt (a ++ b) j = if j < a.size then byteAt a j else byteAt b (j - a.size) := by
  have hl : a.data.toList.length = a.size := Array.length_toList
  unfold byteAt
  rw [ByteArray.data_append, Array.toList_append, List.getD_eq_getElem?_getD, List.getD_eq_getElem?_getD, List.getD_eq_getElem?_getD]
  split
  · rw [List.getElem?_append_left (by omega)]
  · rw [List.getElem?_append_right (by omega), hl]
theorem byteAt_ext (b : ByteArray) (p e i : Nat) (h : p + i < e) : byteAt (b.extract p e) i = byteAt b (p + i) := by
  unfold byteAt
  rw [ByteArray.data_extract, Array.toList_extract, List.getD_eq_getElem?_getD, List.getD_eq_getElem?_getD, List.extract_eq_take_drop, List.getElem?_take, if_pos (by omega), List.getElem?_drop]
theorem lay_size {a s : ByteArray} {c : Nat} (h : c + s.size ≤ a.size) : (lay a s c).size = a.size := by
  rw [lay, ByteArray.size_append, ByteArray.size_append, ByteArray.size_extract, ByteArray.size_extract]
  omega
theorem lay_at {a s : ByteArray} {c j : Nat} (h : c + s.size ≤ a.size) (hj : j < a.size) : byteAt (lay a s c) j = if c ≤ j ∧ j < c + s.size then byteAt s (j - c) else byteAt a j := by
  have h1 : (a.extract 0 c).size = c := by rw [ByteArray.size_extract]; omega
  rw [lay, byteAt_app, byteAt_app, ByteArray.size_append, h1]
  by_cases q1 : j < c
  · rw [if_pos (by omega), if_pos q1, if_neg (by omega), byteAt_ext _ _ _ _ (by omega), Nat.zero_add]
  · by_cases q2 : j < c + s.size
    · rw [if_pos q2, if_neg q1, if_pos ⟨by omega, q2⟩]
    · rw [if_neg q2, if_neg (by omega), byteAt_ext _ _ _ _ (by omega)]
      congr 1
      omega
/-- Bytes put into a row. -/
def putF (f : Nat → Nat → UInt8) (k c : Nat) (s : ByteArray) (i j : Nat) : UInt8 := if i = k ∧ c ≤ j ∧ j < c + s.size then byteAt s (j - c) else f i j
theorem mkR_set {k c : Nat} {s : ByteArray} (hk : k < R) (hc : c + s.size ≤ C) : (mkR R C f).set k (lay (rowAt (mkR R C f) k) s c) = mkR R C (putF f k c s) := by
  have hz := mkR_size (R := R) (C := C) (f := f) hk
  refine mkR_of (by rw [List.length_set, mkR_len]) (fun i hi => ?_) fun i j hi hj => ?_
  · rw [rowAt_set (by rw [mkR_len]; exact hk)]
    split
    · rw [lay_size (by omega), hz]
    · exact mkR_size hi
  · rw [rowAt_set (by rw [mkR_len]; exact hk)]
    unfold putF
    by_cases h : i = k
    · subst h
      rw [if_pos rfl, lay_at (by omega) (by omega), mkR_at hi hj]
      by_cases q : c ≤ j ∧ j < c + s.size
      · rw [if_pos q, if_pos ⟨rfl, q⟩]
      · rw [if_neg q, if_neg fun h => q h.2]
    · rw [if_neg h, if_neg fun q => h q.1, mkR_at hi hj]
end
/-- A display's blocks. -/
def dBs (R C : Nat) (f g : Nat → Nat → UInt8) (i j : Int) : List Blk := [dB R R i j, sB (mkR R C f), sB (mkR R C g)]
theorem putM (R C : Nat) (f g : Nat → Nat → UInt8) (i j : Int) (k c mk : Nat) (s : ByteArray) (hk : k < R) (hC : C ≤ 80) (hc : c + s.size ≤ C) (hmk : mk ≤ 7) :
    Lent E 67 [.pointer (some ⟨0, 0, none⟩), .int .i64 k, .int .i64 c, .string s, .int .i64 mk] (dBs R C f g i j) (.tuple #[]) (dBs R C (putF f k c s) (putF g k c (fillS (UInt8.ofNat (48 + mk)) s.size)) i j) := by
  have h := put67 (mkR R C f) (mkR R C g) i j k c mk s (by rw [mkR_len]; exact hk) (by rw [mkR_len]; exact hk) (by rw [mkR_size hk]; exact hC) (by rw [mkR_size hk, mkR_size hk]) (by rw [mkR_size hk]; exact hc) hmk
  rw [mkR_set hk hc, mkR_set hk (by rw [fillS_size]; exact hc), mkR_len, mkR_len] at h
  exact h
end Go.Proofs.Ytlejgfeoffhjoaa.D
