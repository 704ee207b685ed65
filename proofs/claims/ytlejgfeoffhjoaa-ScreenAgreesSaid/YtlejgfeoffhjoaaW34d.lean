/- The next delivery: found, cloned, deleted. -/
import Derived.Test.YtlejgfeoffhjoaaFwLem
import Derived.Test.YtlejgfeoffhjoaaFwHole
import Derived.Test.YtlejgfeoffhjoaaFwHoleL
import Derived.Test.YtlejgfeoffhjoaaW34a
namespace Go.Proofs.Ytlejgfeoffhjoaa.D
open Go.Fw Go.RowKit

section
variable {cf : CallF} {s : Slots} {h : Heap} {x y : Operand} {t : TypeId} {a b : Int}
theorem o_cutS_LH {bl off n c e size : Nat} {lo hi : Operand} {b' : Int} (h1 : 0 ≤ b' ∧ b' ≤ c) (h2 : 0 ≤ a ∧ a ≤ b'.toNat) (hx : ev s x = some (.slice (some ⟨bl, off, none⟩) n c) := by kernel_rfl) (hy' : vInt (ev s lo) = some a := by kernel_rfl) (hz' : vInt (ev s hi) = some b' := by kernel_rfl) (ht : (E.types t).map TI.desc = some (.slice e) := by kernel_rfl) (he : (E.types e).map TI.size = some size := by kernel_rfl) (hr : rowOf h e (some ⟨bl, off, none⟩) = true := by kernel_rfl) :
    aop E cf (.slice t x (some lo) (some hi) none) s h = some (.slice (some ⟨bl, off + a.toNat * size, none⟩) (b'.toNat - a.toNat) (c - a.toNat), h) := by
  obtain ⟨ti, g1, g2⟩ := Option.map_eq_some_iff.1 ht
  obtain ⟨te, g3, g4⟩ := Option.map_eq_some_iff.1 he
  obtain ⟨k, hy⟩ := vInt_eq hy'
  obtain ⟨k2, hz⟩ := vInt_eq hz'
  subst g4
  simp only [aop, hx, hy, hz, evo, Option.map_some, aslice, g1, g2, g3, hr, abound, if_pos h1, if_pos h2, if_true, keep_some_eq]
theorem o_cutS_LHM {bl off n c e size : Nat} {lo hi mx : Operand} {b' m' : Int} (h0 : 0 ≤ m' ∧ m' ≤ c) (h1 : 0 ≤ b' ∧ b' ≤ m'.toNat) (h2 : 0 ≤ a ∧ a ≤ b'.toNat) (hx : ev s x = some (.slice (some ⟨bl, off, none⟩) n c) := by kernel_rfl) (hy' : vInt (ev s lo) = some a := by kernel_rfl) (hz' : vInt (ev s hi) = some b' := by kernel_rfl) (hm' : vInt (ev s mx) = some m' := by kernel_rfl) (ht : (E.types t).map TI.desc = some (.slice e) := by kernel_rfl) (he : (E.types e).map TI.size = some size := by kernel_rfl) (hr : rowOf h e (some ⟨bl, off, none⟩) = true := by kernel_rfl) :
    aop E cf (.slice t x (some lo) (some hi) (some mx)) s h = some (.slice (some ⟨bl, off + a.toNat * size, none⟩) (b'.toNat - a.toNat) (m'.toNat - a.toNat), h) := by
  obtain ⟨ti, g1, g2⟩ := Option.map_eq_some_iff.1 ht
  obtain ⟨te, g3, g4⟩ := Option.map_eq_some_iff.1 he
  obtain ⟨k, hy⟩ := vInt_eq hy'
  obtain ⟨k2, hz⟩ := vInt_eq hz'
  obtain ⟨k3, hm⟩ := vInt_eq hm'
  subst g4
  simp only [aop, hx, hy, hz, hm, evo, Option.map_some, aslice, g1, g2, g3, hr, abound, if_pos h0, if_pos h1, if_pos h2, if_true, keep_some_eq]
end
theorem f51 : E.funcs 51 = some Try.f51 := by kernel_rfl
theorem f52 : E.funcs 52 = some Try.f52 := by kernel_rfl
theorem f53 : E.funcs 53 = some Try.f53 := by kernel_rfl
theorem f54 : E.funcs 54 = some Try.f54 := by kernel_rfl
theorem setAll_eq (cells xs : List Value) (off : Nat) (h : off + xs.length ≤ cells.length) : setAll cells off xs = cells.take off ++ xs ++ cells.drop (off + xs.length) := by
  have hl : (cells.take off ++ xs).length = off + xs.length := by simp; omega
  apply List.ext_getElem?
  intro i
  rcases Nat.lt_or_ge i off with h1 | h1
  · rw [setAll_out _ _ _ _ (.inl h1), List.getElem?_append_left (by omega), List.getElem?_append_left (by simp; omega), List.getElem?_take, if_pos h1]
  · rcases Nat.lt_or_ge i (off + xs.length) with h2 | h2
    · rw [setAll_in _ _ _ _ h h1 h2, List.getElem?_append_left (by omega), List.getElem?_append_right (by simp; omega)]
      congr 1
      simp
      omega
    · rw [setAll_out _ _ _ _ (.inr h2), List.getElem?_append_right (by omega), List.getElem?_drop, hl]
      congr 1
      omega
theorem dlcs_cons (d : Dl) (l : List Dl) : dlcs (d :: l) = dlc d ++ dlcs l := by
  unfold dlcs
  rw [List.flatMap_cons]
theorem dlcs_at (l : List Dl) (T : List Value) {i : Nat} (h : i < l.length) : cellsAt (dlcs l ++ T) (i * 7) 7 = some (dlc l[i]) := by
  unfold cellsAt
  rw [List.length_append, dlcs_len, if_pos (by omega)]
  congr 1
  have e : l = l.take i ++ l[i] :: l.drop (i + 1) := by rw [List.getElem_cons_drop, List.take_append_drop]
  have h2 : (dlcs (l.take i)).length = i * 7 := by rw [dlcs_len, List.length_take, Nat.min_eq_left (by omega)]
  have e2 : dlcs l ++ T = dlcs (l.take i) ++ (dlc l[i] ++ (dlcs (l.drop (i + 1)) ++ T)) := by
    conv => lhs; rw [e]
    rw [dlcs_app, dlcs_cons]
    simp
  rw [e2, List.drop_left' h2]
  rfl
theorem dlcs_pre (l : List Dl) (T : List Value) : cellsAt (dlcs l ++ T) 0 (l.length * 7) = some (dlcs l) := by
  unfold cellsAt
  rw [List.length_append, dlcs_len, if_pos (by omega), List.drop_zero, List.take_left' (dlcs_len l)]
theorem fn52 (t : Int) (y : Wy) (a b : Sd) (wa wb : Value) (ha : Stay 3 wa) (hb : Stay 3 wb) (l : List Up) (n : Int) (d : Dl) : SCall E 52 [.agg (dlc d).toArray, .pointer (some ⟨4, 0, none⟩)] (heapO [some (wB t (wyV y)), some (sdB a b wa wb), wyB y, qO l, some ⟨3, true, [.int .i64 n]⟩]) (.bool (d.dst == n)) (heapO [some (wB t (wyV y)), some (sdB a b wa wb), wyB y, qO l, some ⟨3, true, [.int .i64 n]⟩]) := by
  refine SCall.enterO f52 rfl (of_decide_eq_true (by kernel_rfl)) (own5 rfl y l) (own5 rfl y l) (Nat.le_refl _) ?_
  unfold dlc
  refine Wp.seq (Wp.text (md 2 (.pointer (some ⟨5, 0, none⟩)) (Blk.mk 88 true [Value.int .i64 (Dl.dst d), Value.iface 26 (Value.iface (List.length (Dl.l d)) (Value.iface (xU (Dl.l d)) (Value.agg (List.toArray (ucs (Dl.l d)))))), Value.bool (Dl.give d), strs 0 (Dsp.r (Dl.sent d)), strs 0 (Dsp.m (Dl.sent d)), Value.int .i64 (Dsp.i (Dl.sent d)), Value.int .i64 (Dsp.j (Dl.sent d))]) (kp 3 (.bool false) (WpOps.nil (thenK_at (Wp.seq (Wp.text (kp 4 (.pointer (some ⟨5, 0, none⟩)) (kp 5 (.int .i64 (Dl.dst d)) (kp 6 (.int .i64 n) (kp 7 (.bool (Dl.dst d == n)) (kp 3 (.bool (Dl.dst d == n)) (WpOps.nil (thenK_at (Wp.ret (endK_retn [Value.bool (Dl.dst d == n)] (Value.bool (Dl.dst d == n)) (by kernel_rfl) (by kernel_rfl) ?_))))))))))))))))
  exact endS _ rfl (by kernel_rfl) (by kernel_rfl) (stay_wy y) ha hb (optWy y (by kernel_rfl)) (optQ l (by kernel_rfl)) (optS (by kernel_rfl) rfl) (.w (.un rfl rfl))
theorem idx51n (t : Int) (a b : Sd) (wa wb : Value) (ha : Stay 3 wa) (hb : Stay 3 wb) (l : List Up) (n : Int) : SCall E 51 [.slice none 0 0, .func (.func 52) #[] #[.pointer (some ⟨4, 0, none⟩)]] (heapO [some (wB t (.slice none 0 0)), some (sdB a b wa wb), none, qO l, some ⟨3, true, [.int .i64 n]⟩]) (.int .i64 (-1)) (heapO [some (wB t (.slice none 0 0)), some (sdB a b wa wb), none, qO l, some ⟨3, true, [.int .i64 n]⟩]) := by
  refine SCall.enterO f51 rfl (of_decide_eq_true (by kernel_rfl)) (own5 rfl .nil l) (own5 rfl .nil l) (Nat.le_refl _) ?_
  unfold wB sdB
  refine Wp.seq (Wp.text (kp 4 (.int .i64 0) (WpOps.nil (thenK_at (Wp.seq (Wp.seq (Wp.text (kp 6 (.slice none 0 0) (kp 7 (.int .i64 (↑0 : Int)) (kp 8 (.int .i64 0) (WpOps.nil (thenK_at (Wp.block ?_)))))))))))))
  refine Wp.unroll (WpL.step ?_)
  refine Wp.seq (Wp.text (kp 9 (.bool false) (WpOps.nil (thenK_at (Wp.seq (off' (Wp.exit (thenK_exit (thenK_exit (blockK_hit (thenK_at (Wp.seq (Wp.text (kp 4 (.int .i64 (-1)) (WpOps.nil (thenK_at (Wp.ret (endK_retn [Value.int .i64 (-1)] (Value.int .i64 (-1)) (by kernel_rfl) (by kernel_rfl) ?_))))))))))))))))))
  exact endS _ rfl (by kernel_rfl) (by kernel_rfl) (stay_nil 2) ha hb (optN _ _) (optQ l (by kernel_rfl)) (optS (by kernel_rfl) rfl) (.w (.un rfl rfl))
theorem idx51y (t : Int) (a b : Sd) (wa wb : Value) (ha : Stay 3 wa) (hb : Stay 3 wb) (l : List Up) (n : Int) (d : Dl) (r : List Dl) (z : Bool) (hd : d.dst = n) (hr : r.length ≤ 1000) : SCall E 51 [wyV (.own (d :: r) z), .func (.func 52) #[] #[.pointer (some ⟨4, 0, none⟩)]] (heapO [some (wB t (wyV (.own (d :: r) z))), some (sdB a b wa wb), wyB (.own (d :: r) z), qO l, some ⟨3, true, [.int .i64 n]⟩]) (.int .i64 0) (heapO [some (wB t (wyV (.own (d :: r) z))), some (sdB a b wa wb), wyB (.own (d :: r) z), qO l, some ⟨3, true, [.int .i64 n]⟩]) := by
  refine SCall.enterO f51 rfl (of_decide_eq_true (by kernel_rfl)) (own5 rfl _ l) (own5 rfl _ l) (Nat.le_refl _) ?_
  have c1 := fn52 t (.own (d :: r) z) a b wa wb ha hb l n d
  have e1 : (d.dst == n) = true := by rw [hd]; simp
  rw [e1] at c1
  have g0 : cellsAt (wyC (d :: r) z) (0 + (0 : Int).toNat * 7) 7 = some (dlc d) := dlcs_at (d :: r) _ (i := 0) (Nat.succ_pos _)
  unfold dlc at g0 c1
  have g1 : (0 : Int) ≤ 0 ∧ (0 : Int) < ((r.length + 1 : Nat) : Int) := by omega
  have d1 : decide ((0 : Int) < ((r.length + 1 : Nat) : Int)) = true := decide_eq_true g1.2
  obtain ⟨C, hC⟩ : ∃ C, wyC (d :: r) z = C := ⟨_, rfl⟩
  have hfl : C.all flat = true := by rw [← hC]; exact wyC_flat _ _
  have hB : wyB (.own (d :: r) z) = some ⟨88, true, C⟩ := by rw [← hC]; rfl
  rw [hB] at c1
  show Wp 5 E _ _ (slots0 [.slice (some ⟨2, 0, none⟩) (r.length + 1) _, _]) (heapO [_, _, wyB (.own (d :: r) z), _, _]) _
  rw [hC] at g0
  rw [hB]
  refine Wp.seq (Wp.text (kp 4 (.int .i64 0) (WpOps.nil (thenK_at (Wp.seq (Wp.seq (Wp.text (kp 6 (.slice (some ⟨2, 0, none⟩) (List.length r + 1) (bif z then List.length (d :: r) + 1 else List.length (d :: r))) (kp 7 (.int .i64 (↑(List.length r + 1) : Int)) (kp 8 (.int .i64 0) (WpOps.nil (thenK_at (Wp.block ?_)))))))))))))
  refine Wp.unroll (WpL.step ?_)
  refine Wp.seq (Wp.text (kp 9 (.bool true) (WpOps.nil (thenK_at (Wp.seq (on' (Wp.skip (thenK_at (Wp.seq (Wp.block (Wp.seq (Wp.text (kp 10 (.int .i64 0) (kp 5 (.int .i64 0) (WpOps.nil (thenK_at (Wp.seq (Wp.text (kp 11 (.func (Fn.func 52) #[] #[Value.pointer (some ⟨4, 0, none⟩)]) (kp 12 (.slice (some ⟨2, 0, none⟩) (List.length r + 1) (bif z then List.length (d :: r) + 1 else List.length (d :: r))) (kp 13 (.int .i64 0) (kp 14 (.pointer (some ⟨2, 0, none⟩)) (kp 15 (.agg #[Value.int .i64 (Dl.dst d), fU (Dl.l d), Value.bool (Dl.give d), strs 0 (Dsp.r (Dl.sent d)), strs 0 (Dsp.m (Dl.sent d)), Value.int .i64 (Dsp.i (Dl.sent d)), Value.int .i64 (Dsp.j (Dl.sent d))]) (cl 16 52 [Value.agg #[Value.int .i64 (Dl.dst d), fU (Dl.l d), Value.bool (Dl.give d), strs 0 (Dsp.r (Dl.sent d)), strs 0 (Dsp.m (Dl.sent d)), Value.int .i64 (Dsp.i (Dl.sent d)), Value.int .i64 (Dsp.j (Dl.sent d))], Value.pointer (some ⟨4, 0, none⟩)] ?_) (hop := fun _ => o_loadA (2) (0) g0)) (hop := fun _ => o_indexAddr (a := 0) (bl := 2) (off := 0) (size := 7) 88 (List.length r + 1) g1))))))))))))))))))))) (hop := fun _ => by_fact d1)))
  refine WpCall.enterO c1 rfl ?_
  refine WpOps.nil (thenK_at (on' (Wp.seq (Wp.text (kp 17 (.int .i64 0) (kp 4 (.int .i64 0) (WpOps.nil (thenK_at (Wp.ret (blockK_ret (thenK_ret (thenK_ret (blockK_ret (thenK_ret (endK_retn [Value.int .i64 0] (Value.int .i64 0) (by kernel_rfl) (by kernel_rfl) ?_)))))))))))))))
  exact endS _ rfl (by kernel_rfl) (by kernel_rfl) (stay_wy _) ha hb (optS (by kernel_rfl) hfl) (optQ l (by kernel_rfl)) (optS (by kernel_rfl) rfl) (.w (.un rfl rfl))
theorem idx51o (t : Int) (a b : Sd) (wa wb : Value) (ha : Stay 3 wa) (hb : Stay 3 wb) (l : List Up) (n : Int) (L : List Dl) (z : Bool) (hd : ∀ i (h : i < L.length), ¬ L[i].dst = n) (hr : L.length ≤ 1000) : SCall E 51 [wyV (.own L z), .func (.func 52) #[] #[.pointer (some ⟨4, 0, none⟩)]] (heapO [some (wB t (wyV (.own L z))), some (sdB a b wa wb), wyB (.own L z), qO l, some ⟨3, true, [.int .i64 n]⟩]) (.int .i64 (-1)) (heapO [some (wB t (wyV (.own L z))), some (sdB a b wa wb), wyB (.own L z), qO l, some ⟨3, true, [.int .i64 n]⟩]) := by
  refine SCall.enterO f51 rfl (of_decide_eq_true (by kernel_rfl)) (own5 rfl _ l) (own5 rfl _ l) (Nat.le_refl _) ?_
  obtain ⟨C, hC⟩ : ∃ C, wyC L z = C := ⟨_, rfl⟩
  have hfl : C.all flat = true := by rw [← hC]; exact wyC_flat _ _
  have hB : wyB (.own L z) = some ⟨88, true, C⟩ := by rw [← hC]; rfl
  obtain ⟨c, hc⟩ : ∃ c, (bif z then L.length + 1 else L.length) = c := ⟨_, rfl⟩
  have hV : wyV (.own L z) = .slice (some ⟨2, 0, none⟩) L.length c := by rw [← hc]; rfl
  rw [hB, hV]
  refine Wp.seq (Wp.text (kp 4 (.int .i64 0) (WpOps.nil (thenK_at (Wp.seq (Wp.seq (Wp.text (kp 6 (.slice (some ⟨2, 0, none⟩) (List.length L) c) (kp 7 (.int .i64 (List.length L)) (kp 8 (.int .i64 0) (WpOps.nil (thenK_at (Wp.block ?_)))))))))))))
  refine Wp.loop (G := Nat) (fun i => layj [(0, .slice (some ⟨2, 0, none⟩) L.length c), (1, .func (.func 52) #[] #[.pointer (some ⟨4, 0, none⟩)]), (7, .int .i64 L.length), (8, .int .i64 i)]) (fun _ => heapO [some (wB t (.slice (some ⟨2, 0, none⟩) L.length c)), some (sdB a b wa wb), some ⟨88, true, C⟩, qO l, some ⟨3, true, [.int .i64 n]⟩]) (fun i => L.length - i) (fun i => i ≤ L.length) 0
    (view5 (by kernel_rfl) (by kernel_rfl) (stay_sl 2 0 _ _) ha hb (optS (by kernel_rfl) hfl) (optQ l (by kernel_rfl)) (optS (by kernel_rfl) rfl) ⟨⟨by kernel_rfl, rfl⟩, ⟨by kernel_rfl, rfl⟩, ⟨by kernel_rfl, rfl⟩, ⟨by kernel_rfl, rfl⟩, trivial⟩) (Nat.zero_le _) ?_
  intro i hi
  by_cases hlt : i < L.length
  · have d2 : decide ((i : Int) < (L.length : Int)) = true := decide_eq_true (by omega)
    have g1 : 0 ≤ (i : Int) ∧ (i : Int) < (L.length : Int) := by omega
    have g0 : cellsAt C (0 + (i : Int).toNat * 7) 7 = some (dlc L[i]) := by
      rw [← hC, Int.toNat_natCast, Nat.zero_add]
      exact dlcs_at L _ hlt
    have c1 := fn52 t (.own L z) a b wa wb ha hb l n L[i]
    have e1 : (L[i].dst == n) = false := by simpa using hd i hlt
    rw [e1, hB, hV] at c1
    have wi : IntKind.i64.wrap ((i : Int) + 1) = ((i + 1 : Nat) : Int) := by rw [wr _ (by omega) (by omega)]; omega
    unfold dlc at g0 c1
    refine Wp.seq (Wp.text (kp 9 (.bool true) (WpOps.nil (thenK_at (Wp.seq (on' (Wp.skip (thenK_at (Wp.seq (Wp.block (Wp.seq (Wp.text (kp 10 (.int .i64 i) (kp 5 (.int .i64 i) (WpOps.nil (thenK_at (Wp.seq (Wp.text (kp 11 (.func (Fn.func 52) #[] #[Value.pointer (some ⟨4, 0, none⟩)]) (kp 12 (.slice (some ⟨2, 0, none⟩) (List.length L) c) (kp 13 (.int .i64 i) (kp 14 (.pointer (some (Addr.mk 2 (0 + Int.toNat (↑i : Int) * 7) none))) (kp 15 (.agg #[Value.int .i64 (Dl.dst L[i]), fU (Dl.l L[i]), Value.bool (Dl.give L[i]), strs 0 (Dsp.r (Dl.sent L[i])), strs 0 (Dsp.m (Dl.sent L[i])), Value.int .i64 (Dsp.i (Dl.sent L[i])), Value.int .i64 (Dsp.j (Dl.sent L[i]))]) (cl 16 52 [Value.agg #[Value.int .i64 (Dl.dst L[i]), fU (Dl.l L[i]), Value.bool (Dl.give L[i]), strs 0 (Dsp.r (Dl.sent L[i])), strs 0 (Dsp.m (Dl.sent L[i])), Value.int .i64 (Dsp.i (Dl.sent L[i])), Value.int .i64 (Dsp.j (Dl.sent L[i]))], Value.pointer (some ⟨4, 0, none⟩)] ?_) (hop := fun _ => o_loadA (2) (0 + Int.toNat (↑i : Int) * 7) g0)) (hop := fun _ => o_indexAddr (a := (↑i : Int)) (bl := 2) (off := 0) (size := 7) 88 (List.length L) g1))))))))))))))))))))) (hop := fun _ => by_fact d2)))
    refine WpCall.enterO c1 rfl ?_
    refine WpOps.nil (thenK_at (off' (Wp.skip (blockK_norm (thenK_at (Wp.text (kp 18 (.int .i64 (IntKind.wrap .i64 ((↑i : Int) + 1))) (kp 8 (.int .i64 (IntKind.wrap .i64 ((↑i : Int) + 1))) (WpOps.nil (thenK_at ?_))))))))))
    exact ⟨i + 1, by omega, by omega, view5 (by kernel_rfl) (by kernel_rfl) (stay_sl 2 0 _ _) ha hb (optS (by kernel_rfl) hfl) (optQ l (by kernel_rfl)) (optS (by kernel_rfl) rfl) ⟨⟨by kernel_rfl, rfl⟩, ⟨by kernel_rfl, rfl⟩, ⟨by kernel_rfl, rfl⟩, ⟨congrArg (Value.int .i64) wi, rfl⟩, trivial⟩⟩
  · have d2 : decide ((i : Int) < (L.length : Int)) = false := decide_eq_false (by omega)
    refine Wp.seq (Wp.text (kp 9 (.bool false) (WpOps.nil (thenK_at (Wp.seq (off' (Wp.exit (thenK_exit (thenK_exit (blockK_hit (thenK_at (Wp.seq (Wp.text (kp 4 (.int .i64 (-1)) (WpOps.nil (thenK_at (Wp.ret (endK_retn [Value.int .i64 (-1)] (Value.int .i64 (-1)) (by kernel_rfl) (by kernel_rfl) ?_)))))))))))))))) (hop := fun _ => by_fact d2)))
    exact endS _ rfl (by kernel_rfl) (by kernel_rfl) (stay_sl 2 0 _ _) ha hb (optS (by kernel_rfl) hfl) (optQ l (by kernel_rfl)) (optS (by kernel_rfl) rfl) (.w (.un rfl rfl))
theorem clone54 (l : List Dl) (T : List Value) (hT : T.all flat = true) (c : Nat) (h0 : l ≠ []) (hl : l.length ≤ 1000) : Lent E 54 [.slice (some ⟨0, 0, none⟩) l.length c] [⟨88, true, dlcs l ++ T⟩] (.slice (some ⟨1, 0, none⟩) l.length l.length) [⟨88, true, dlcs l ++ T⟩, ⟨88, true, dlcs l⟩] := by
  have hfl : (dlcs l ++ T).all flat = true := by rw [List.all_append, dlcs_flat, hT]; rfl
  have q0 : cellsAt (dlcs l ++ T) 0 (l.length * 7) = some (dlcs l) := dlcs_pre l T
  obtain ⟨m, hm⟩ : ∃ m, l.length = m + 1 := ⟨l.length - 1, by have := List.length_pos_iff.2 h0; omega⟩
  have q1 : ¬ 0 + l.length ≤ 0 := by omega
  have q2 : 1 ≤ 104 ∧ (0 + l.length) * 104 ≤ 140737488355328 ∧ 7 = 7 ∧ 0 + l.length ≤ 9223372036854775807 := by omega
  refine Lent.of f54 rfl (of_decide_eq_true (by kernel_rfl)) rfl rfl (Nat.le_succ _) rfl ?_ rfl ?_
  · simp only [List.all_cons, List.all_nil, okCs_flat hfl, okCs_flat (dlcs_flat _), Bool.and_true]
  rw [hm] at q0 q1 q2 ⊢
  refine Wp.seq (Wp.text (kp 2 (.slice none 0 0) (WpOps.nil (thenK_at (Wp.seq (Wp.seq (Wp.text (kp 3 (.slice (some ⟨0, 0, none⟩) (m + 1) c) (kp 4 (.bool false) (WpOps.nil (thenK_at (off' (Wp.skip (thenK_at (Wp.seq (Wp.text (md 5 (.slice (some ⟨1, 0, none⟩) 0 0) (Blk.mk 88 true []) (kp 6 (.slice (some ⟨0, 0, none⟩) (m + 1) c) ?_))))))))))))))))))
  refine ra 7 (.slice (some ⟨2, 0, none⟩) (0 + (m + 1)) (0 + (m + 1))) (1) (Blk.mk 88 true ([] ++ dlcs l)) ?_ (hop := fun _ => o_append (e := 88) (1) (0) (0) _ (0) q1 q2 (by kernel_rfl) (by kernel_rfl) (by kernel_rfl) (by kernel_rfl) (src_of (b := 0) (off := 0) (by kernel_rfl) (by kernel_rfl) (by kernel_rfl) q0))
  refine kp 2 (.slice (some ⟨2, 0, none⟩) (0 + (m + 1)) (0 + (m + 1))) (WpOps.nil (thenK_at (Wp.ret (endK_retn [Value.slice (some (Addr.mk 2 0 none)) (0 + (m + 1)) (0 + (m + 1))] (Value.slice (some (Addr.mk 2 0 none)) (0 + (m + 1)) (0 + (m + 1))) (by kernel_rfl) (by kernel_rfl) ?_))))
  have e : 0 + (m + 1) = m + 1 := Nat.zero_add _
  rw [e]
  exact ⟨[0, 2], by decide, by kernel_rfl, ⟨⟨_, by kernel_rfl, told_flat hfl⟩, ⟨_, by kernel_rfl, told_flat (dlcs_flat _)⟩, trivial⟩, .w (.un rfl rfl)⟩
set_option maxRecDepth 8000 in
theorem del53 (d : Dl) (r : List Dl) (hl : r.length ≤ 1000) : Lent E 53 [.slice (some ⟨0, 0, none⟩) (r.length + 1) (r.length + 1), .int .i64 0, .int .i64 1] [⟨88, true, dlcs (d :: r)⟩] (.slice (some ⟨0, 0, none⟩) r.length (r.length + 1)) [⟨88, true, dlcs r ++ z7⟩] := by
  have hz : (dlcs r ++ z7).all flat = true := by rw [List.all_append, dlcs_flat]; rfl
  refine Lent.of f53 rfl (of_decide_eq_true (by kernel_rfl)) rfl rfl (Nat.le_refl _) rfl ?_ rfl ?_
  · simp only [List.all_cons, List.all_nil, okCs_flat hz, Bool.and_true]
  have hfl : (dlcs (d :: r)).all flat = true := dlcs_flat _
  rcases r with _ | ⟨e, r⟩
  · show Wp 1 E _ _ (slots0 [.slice (some ⟨0, 0, none⟩) 1 1, .int .i64 0, .int .i64 1]) (heapOf [⟨88, true, dlcs [d]⟩]) _
    refine Wp.seq (Wp.text (kp 6 (.slice none 0 0) (WpOps.nil (thenK_at (Wp.seq (Wp.text (kp 8 (.slice (some ⟨0, 0, none⟩) 1 1) (kp 9 (.int .i64 0) (kp 10 (.int .i64 1) (kp 11 (.slice (some ⟨0, 0, none⟩) 1 1) (kp 12 (.int .i64 (↑1 : Int)) (kp 13 (.slice (some ⟨0, 0, none⟩) 1 1) (WpOps.nil (thenK_at (Wp.seq (Wp.seq (Wp.text (kp 14 (.int .i64 0) (kp 15 (.int .i64 1) (kp 16 (.bool false) (WpOps.nil (thenK_at (off' (Wp.skip (thenK_at (Wp.seq (Wp.text (kp 18 (.slice (some ⟨0, 0, none⟩) 1 1) (kp 19 (.int .i64 (↑1 : Int)) (kp 7 (.int .i64 (↑1 : Int)) (WpOps.nil (thenK_at (Wp.seq (Wp.region (by kernel_rfl) (kp 20 (.slice (some ⟨0, 0, none⟩) 1 1) (kp 21 (.int .i64 0) (kp 22 (.slice (some ⟨0, 0, none⟩) 0 1) (kp 23 (.slice (some ⟨0, 0, none⟩) 1 1) (kp 24 (.int .i64 1) (kp 25 (.slice (some ⟨0, 7, none⟩) 0 0) (kp 26 (.slice (some ⟨0, 0, none⟩) 0 1) (kp 0 (.slice (some ⟨0, 0, none⟩) 0 1) (WpOps.nil (thenK_at (Wp.seq (Wp.text (kp 27 (.slice (some ⟨0, 0, none⟩) 0 1) (kp 28 (.slice (some ⟨0, 0, none⟩) 0 1) (kp 29 (.int .i64 (↑0 : Int)) (kp 30 (.int .i64 (↑1 : Int)) (kp 31 (.slice (some ⟨0, 0, none⟩) 1 1) (ld (.tuple #[]) (0) (Blk.mk 88 true [Value.int .i64 0, Value.slice none 0 0, Value.bool false, Value.slice none 0 0, Value.slice none 0 0, Value.int .i64 0, Value.int .i64 0]) (WpOps.nil (thenK_at (Wp.seq (Wp.text (kp 32 (.slice (some ⟨0, 0, none⟩) 0 1) (kp 6 (.slice (some ⟨0, 0, none⟩) 0 1) (WpOps.nil (thenK_at (Wp.ret (endK_retn [Value.slice (some (Addr.mk 0 0 none)) 0 1] (Value.slice (some (Addr.mk 0 0 none)) 0 1) (by kernel_rfl) (by kernel_rfl) ?_))))))))))))))))))))))))))))))))))))))))))))))))))))))))))))))
    exact ⟨[0], by decide, by kernel_rfl, ⟨⟨_, by kernel_rfl, told_eq rfl rfl⟩, trivial⟩, .w (.un rfl rfl)⟩
  · obtain ⟨k, hk⟩ : ∃ k, (e :: r).length = k + 1 := ⟨r.length, rfl⟩
    generalize hR : e :: r = R at *
    rw [hk] at hl ⊢
    have hp : (dlcs (d :: R)).length = (k + 2) * 7 := by rw [dlcs_len, List.length_cons, hk]
    have hq : (dlcs R).length = (k + 1) * 7 := by rw [dlcs_len, hk]
    have g1 : (0 : Int) ≤ 1 ∧ (1 : Int) ≤ ((k + 1 + 1 : Nat) : Int) := by omega
    have g8 : cellsAt (dlcs (d :: R)) (0 + 1 * 7) ((k + 1) * 7) = some (dlcs R) := by
      unfold cellsAt
      rw [hp, if_pos (by omega), dlcs_cons, List.drop_left' (by rfl), List.take_of_length_le (by rw [hq]; exact Nat.le_refl _)]
    have g2 : 0 ≤ ((k + 1 + 1 : Nat) : Int) ∧ ((k + 1 + 1 : Nat) : Int) ≤ ((k + 1 + 1 : Nat) : Int) := by omega
    have h1 : 0 + (k + 1 + 1 - 1) ≤ k + 1 + 1 - 0 := by omega
    have h3 : true = true ∧ 0 + (dlcs R).length ≤ (dlcs (d :: R)).length := ⟨rfl, by rw [hp, hq]; omega⟩
    have g3 : (0 : Int) ≤ 1 ∧ (1 : Int) ≤ ((((k + 1 + 1 : Nat) : Int).toNat : Nat) : Int) := by omega
    have g4 : (0 : Int) ≤ ((0 + (k + 1 + 1 - 1) : Nat) : Int) ∧ ((0 + (k + 1 + 1 - 1) : Nat) : Int) ≤ ((((k + 1 + 1 : Nat) : Int).toNat : Nat) : Int) := by omega
    have g5 : (0 : Int) ≤ ((k + 1 + 1 : Nat) : Int) ∧ ((k + 1 + 1 : Nat) : Int) ≤ ((k + 1 + 1 - 0 : Nat) : Int) := by omega
    have g6 : ¬ ((k + 1 + 1 : Nat) : Int).toNat - ((0 + (k + 1 + 1 - 1) : Nat) : Int).toNat = 0 := by omega
    have e2 : setAll (dlcs (d :: R)) 0 (dlcs R) = dlcs R ++ (dlcs (d :: R)).drop ((k + 1) * 7) := by
      rw [setAll_eq _ _ _ h3.2, hq, Nat.zero_add]
      simp
    have k1 : ((k + 1 + 1 : Nat) : Int).toNat - ((0 + (k + 1 + 1 - 1) : Nat) : Int).toNat = 1 := by omega
    have k2 : 0 + ((0 + (k + 1 + 1 - 1) : Nat) : Int).toNat * 7 = (k + 1) * 7 := by omega
    have h5 : true = true ∧ 0 + ((0 + (k + 1 + 1 - 1) : Nat) : Int).toNat * 7 + (zeros z7 (((k + 1 + 1 : Nat) : Int).toNat - ((0 + (k + 1 + 1 - 1) : Nat) : Int).toNat)).length ≤ (setAll (dlcs (d :: R)) 0 (dlcs R)).length := by
      refine ⟨rfl, ?_⟩
      rw [setAll_len, hp, k1, k2]
      show (k + 1) * 7 + 7 ≤ _
      omega
    have e3 : setAll (setAll (dlcs (d :: R)) 0 (dlcs R)) (0 + ((0 + (k + 1 + 1 - 1) : Nat) : Int).toNat * 7) (zeros z7 (((k + 1 + 1 : Nat) : Int).toNat - ((0 + (k + 1 + 1 - 1) : Nat) : Int).toNat)) = dlcs R ++ z7 := by
      rw [setAll_eq _ _ _ h5.2, k1, k2, e2, List.take_left' hq, List.drop_eq_nil_of_le (by rw [List.length_append, List.length_drop, hp, hq]; show _ ≤ (k + 1) * 7 + 7; omega), List.append_nil]
      rfl
    unfold z7 at h5 e3
    refine Wp.seq (Wp.text (kp 6 (.slice none 0 0) (WpOps.nil (thenK_at (Wp.seq (Wp.text (kp 8 (.slice (some ⟨0, 0, none⟩) (k + 1 + 1) (k + 1 + 1)) (kp 9 (.int .i64 0) (kp 10 (.int .i64 1) (kp 11 (.slice (some ⟨0, 0, none⟩) (k + 1 + 1) (k + 1 + 1)) (kp 12 (.int .i64 (↑(k + 1 + 1) : Int)) (kp 13 (.slice (some ⟨0, 0, none⟩) 1 (Int.toNat (↑(k + 1 + 1) : Int) - 0)) (WpOps.nil (thenK_at (Wp.seq (Wp.seq (Wp.text (kp 14 (.int .i64 0) (kp 15 (.int .i64 1) (kp 16 (.bool false) (WpOps.nil (thenK_at (off' (Wp.skip (thenK_at (Wp.seq (Wp.text (kp 18 (.slice (some ⟨0, 0, none⟩) (k + 1 + 1) (k + 1 + 1)) (kp 19 (.int .i64 (↑(k + 1 + 1) : Int)) (kp 7 (.int .i64 (↑(k + 1 + 1) : Int)) (WpOps.nil (thenK_at (Wp.seq (Wp.region (by kernel_rfl) (kp 20 (.slice (some ⟨0, 0, none⟩) (k + 1 + 1) (k + 1 + 1)) (kp 21 (.int .i64 0) (kp 22 (.slice (some ⟨0, 0, none⟩) 0 (k + 1 + 1 - 0)) (kp 23 (.slice (some ⟨0, 0, none⟩) (k + 1 + 1) (k + 1 + 1)) (kp 24 (.int .i64 1) (kp 25 (.slice (some ⟨0, 7, none⟩) (k + 1 + 1 - 1) (k + 1 + 1 - 1)) ?_ (hop := fun _ => o_cutS_lo (a := 1) (bl := 0) (off := 0) (e := 88) (size := 7) g1))))))))))))))))))))))))))))) (hop := fun _ => o_cutS_LHM (n := k + 1 + 1) (c := k + 1 + 1) (a := 0) (b' := 1) (m' := ((k + 1 + 1 : Nat) : Int)) (bl := 0) (off := 0) (e := 88) (size := 7) g2 g3 (by decide))))))))))))))
    refine cg 26 (.slice (some ⟨0, 0, none⟩) (0 + (k + 1 + 1 - 1)) (k + 1 + 1 - 0)) (Heap.set (heapOf [Blk.mk 88 true (dlcs (d :: R))]) 0 (some (Blk.mk 88 true (setAll (dlcs (d :: R)) 0 (dlcs R))))) ?_ (hop := fun _ => o_appendI (e := 88) (bl := 0) (off := 0) (n := 0) (m := k + 1 + 1 - 1) (c := k + 1 + 1 - 0) (size := 7) (el := 88) (cells := dlcs (d :: R)) (new := dlcs R) h1 h3 (by omega) (by kernel_rfl) (by kernel_rfl) (by kernel_rfl) (by kernel_rfl) (src_of (b := 0) (off := 7) (by kernel_rfl) (by kernel_rfl) (by kernel_rfl) g8))
    refine kp 0 (.slice (some ⟨0, 0, none⟩) (0 + (k + 1 + 1 - 1)) (k + 1 + 1 - 0)) (WpOps.nil (thenK_at (Wp.seq (Wp.text (kp 27 (.slice (some ⟨0, 0, none⟩) (0 + (k + 1 + 1 - 1)) (k + 1 + 1 - 0)) (kp 28 (.slice (some ⟨0, 0, none⟩) (0 + (k + 1 + 1 - 1)) (k + 1 + 1 - 0)) (kp 29 (.int .i64 (↑(0 + (k + 1 + 1 - 1)) : Int)) (kp 30 (.int .i64 (↑(k + 1 + 1) : Int)) (kp 31 (.slice (some (Addr.mk 0 (0 + Int.toNat (↑(0 + (k + 1 + 1 - 1)) : Int) * 7) none)) (Int.toNat (↑(k + 1 + 1) : Int) - Int.toNat (↑(0 + (k + 1 + 1 - 1)) : Int)) (k + 1 + 1 - 0 - Int.toNat (↑(0 + (k + 1 + 1 - 1)) : Int))) (ld (.tuple #[]) (0) (Blk.mk 88 true (setAll (setAll (dlcs (d :: R)) 0 (dlcs R)) (0 + Int.toNat (↑(0 + (k + 1 + 1 - 1)) : Int) * 7) (zeros [Value.int .i64 0, Value.slice none 0 0, Value.bool false, Value.slice none 0 0, Value.slice none 0 0, Value.int .i64 0, Value.int .i64 0] (Int.toNat (↑(k + 1 + 1) : Int) - Int.toNat (↑(0 + (k + 1 + 1 - 1)) : Int))))) (WpOps.nil (thenK_at (Wp.seq (Wp.text (kp 32 (.slice (some ⟨0, 0, none⟩) (0 + (k + 1 + 1 - 1)) (k + 1 + 1 - 0)) (kp 6 (.slice (some ⟨0, 0, none⟩) (0 + (k + 1 + 1 - 1)) (k + 1 + 1 - 0)) (WpOps.nil (thenK_at (Wp.ret (endK_retn [Value.slice (some (Addr.mk 0 0 none)) (0 + (k + 1 + 1 - 1)) (k + 1 + 1 - 0)] (Value.slice (some (Addr.mk 0 0 none)) (0 + (k + 1 + 1 - 1)) (k + 1 + 1 - 0)) (by kernel_rfl) (by kernel_rfl) ?_)))))))))) (hop := fun _ => o_clear g6 h5)) (hop := fun _ => o_cutS_LH (n := 0 + (k + 1 + 1 - 1)) (c := k + 1 + 1 - 0) (a := ((0 + (k + 1 + 1 - 1) : Nat) : Int)) (b' := ((k + 1 + 1 : Nat) : Int)) (bl := 0) (off := 0) (e := 88) (size := 7) g5 g4))))))))))
    exact ⟨[0], by decide, by kernel_rfl, ⟨⟨setAll (setAll (dlcs (d :: R)) 0 (dlcs R)) (0 + ((0 + (k + 1 + 1 - 1) : Nat) : Int).toNat * 7) (zeros [Value.int .i64 0, Value.slice none 0 0, Value.bool false, Value.slice none 0 0, Value.slice none 0 0, Value.int .i64 0, Value.int .i64 0] (((k + 1 + 1 : Nat) : Int).toNat - ((0 + (k + 1 + 1 - 1) : Nat) : Int).toNat)), by kernel_rfl, by rw [e3]; exact told_flat hz⟩, trivial⟩, .w (.un (by rw [show 0 + (k + 1 + 1 - 1) = k + 1 by omega]; rfl) rfl)⟩
end Go.Proofs.Ytlejgfeoffhjoaa.D
