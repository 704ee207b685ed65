/- The law ScreenDiffers. -/
import Derived.Test.YtlejgfeoffhjoaaFwLem
import Derived.Test.YtlejgfeoffhjoaaF34y
namespace Go.Proofs.Ytlejgfeoffhjoaa.D
open Go.Fw Go.RowKit

/-! ## what the updates come to -/
def stU (R C : Nat) (s : Ap) (u : Up) : Ap := apF R C s.f s.g s.i s.j u.op u.row.toNat u.col.toNat u.n.toNat u.t
def runU (R C : Nat) (s : Ap) (l : List Up) : Ap := l.foldl (stU R C) s
theorem runU_app (R C : Nat) (s : Ap) (l m : List Up) : runU R C s (l ++ m) = runU R C (runU R C s l) m := List.foldl_append
def UOk (R C : Nat) (u : Up) : Prop := (u.op = 0 ∧ u.t.size ≤ 200 ∧ (0 ≤ u.row ∧ u.row < R) ∧ (0 ≤ u.col ∧ u.col < C)) ∨ (u.op = 1 ∧ (1 ≤ u.t.size ∧ u.t.size ≤ 200) ∧ allB u.t 32 126 = true ∧ (0 ≤ u.n ∧ u.n ≤ 7))
theorem UOk.fits {R C : Nat} {u : Up} (h : UOk R C u) : Fits R C u.op u.row u.col u.n u.t := h.elim (fun h => .inl ⟨h.1, h.2.2⟩) fun h => .inr (.inl h)
def StOk (R C : Nat) (s : Ap) : Prop := CellsIn R C s.f s.g ∧ s.i < R ∧ s.j < C
theorem stU_ok {R C : Nat} {s : Ap} {u : Up} (hs : StOk R C s) (hu : UOk R C u) : StOk R C (stU R C s u) := apF_in hs.1 hs.2.1 hs.2.2 (fits_nat hu.fits)
theorem runU_ok {R C : Nat} : ∀ {l : List Up} {s : Ap}, StOk R C s → (∀ u ∈ l, UOk R C u) → StOk R C (runU R C s l)
  | [], _, hs, _ => hs
  | u :: l, _, hs, hl => runU_ok (l := l) (stU_ok hs (hl u (by simp))) fun v hv => hl v (by simp [hv])
theorem all_one (b : UInt8) (h : byIn 32 126 b = true) : allB (one b) 32 126 = true := by
  rw [allB_iff]
  intro i hi
  rw [one_size] at hi
  obtain rfl : i = 0 := by omega
  exact h
section
variable {f g f' g' : Nat → Nat → UInt8} {R C : Nat}
theorem cellU_ok (hc : CellsIn R C f' g') {r c : Nat} (hr : r < R) (hcc : c < C) : ∀ u ∈ cellU f g f' g' r c, UOk R C u := by
  intro u hu
  unfold cellU at hu
  split at hu
  · rcases List.mem_cons.1 hu with rfl | hu
    · exact .inl ⟨rfl, Nat.zero_le _, by show 0 ≤ (r : Int) ∧ (r : Int) < R; omega, by show 0 ≤ (c : Int) ∧ (c : Int) < C; omega⟩
    · obtain rfl := List.mem_singleton.1 hu
      obtain ⟨h1, h2⟩ := hc r c hr hcc
      obtain ⟨h48, h55⟩ : 48 ≤ (g' r c).toNat ∧ (g' r c).toNat ≤ 55 := of_decide_eq_true h2
      exact .inr ⟨rfl, by show 1 ≤ 1 ∧ 1 ≤ 200; omega, all_one _ h1, by show 0 ≤ (((g' r c).toNat - 48 : Nat) : Int) ∧ (((g' r c).toNat - 48 : Nat) : Int) ≤ 7; omega⟩
  · cases hu
theorem rowU_ok (hc : CellsIn R C f' g') {r : Nat} (hr : r < R) : ∀ q, q ≤ C → ∀ u ∈ rowU f g f' g' r q, UOk R C u
  | 0, _, u, hu => by cases hu
  | q + 1, hq, u, hu => by
    rw [rowU] at hu
    rcases List.mem_append.1 hu with hu | hu
    · exact rowU_ok hc hr q (by omega) u hu
    · exact cellU_ok hc hr (by omega) u hu
theorem allU_ok (hc : CellsIn R C f' g') : ∀ k, k ≤ R → ∀ u ∈ allU f g f' g' C k, UOk R C u
  | 0, _, u, hu => by cases hu
  | k + 1, hk, u, hu => by
    rw [allU] at hu
    rcases List.mem_append.1 hu with hu | hu
    · exact allU_ok hc k (by omega) u hu
    · exact rowU_ok hc (by omega) C (Nat.le_refl _) u hu
/-- Cells ahead of p are of the one, those behind of the other. -/
def Mix (f g f' g' : Nat → Nat → UInt8) (R C p : Nat) (s : Ap) : Prop := ∀ a c, a < R → c < C → s.f a c = (if a * C + c < p then f' a c else f a c) ∧ s.g a c = (if a * C + c < p then g' a c else g a c)
theorem cell_inj {a b c d : Nat} (hb : b < C) (hd : d < C) (h : a * C + b = c * C + d) : a = c ∧ b = d := by
  have h1 := divC (a := a) hb
  have h2 := divC (a := c) hd
  rw [h] at h1
  exact ⟨h1.1.symm.trans h2.1, h1.2.symm.trans h2.2⟩
theorem mix_cell (hc : CellsIn R C f' g') {r c : Nat} (hr : r < R) (hcc : c < C) {s : Ap} (hm : Mix f g f' g' R C (r * C + c) s) : Mix f g f' g' R C (r * C + (c + 1)) (runU R C s (cellU f g f' g' r c)) := by
  unfold cellU
  by_cases hd : dfB f g f' g' r c = true
  · rw [if_pos hd]
    obtain ⟨h48, h55⟩ : 48 ≤ (g' r c).toNat ∧ (g' r c).toNat ≤ 55 := of_decide_eq_true (hc r c hr hcc).2
    have e : runU R C s [mvU r c, txU ((g' r c).toNat - 48) (f' r c)] = stU R C ⟨s.f, s.g, r, c⟩ (txU ((g' r c).toNat - 48) (f' r c)) := by
      unfold runU stU
      rfl
    have e2 : stU R C ⟨s.f, s.g, r, c⟩ (txU ((g' r c).toNat - 48) (f' r c)) = ⟨tF C (r * C + c) (one (f' r c)) s.f, tF C (r * C + c) (fillS (UInt8.ofNat (48 + ((g' r c).toNat - 48))) 1) s.g, min (r * C + c + 1) (R * C - 1) / C, min (r * C + c + 1) (R * C - 1) % C⟩ := by
      unfold stU apF txU
      rw [if_neg (show ¬ ((1 : Int) = 0) by decide), if_pos rfl]
      simp only [Int.toNat_natCast, one_size]
    rw [e, e2]
    intro a d ha hdd
    obtain ⟨h1, h2⟩ := hm a d ha hdd
    dsimp only
    unfold tF
    rw [one_size, fillS_size]
    by_cases q : a * C + d = r * C + c
    · obtain ⟨rfl, rfl⟩ := cell_inj hdd hcc q
      have p1 : a * C + d ≤ a * C + d ∧ a * C + d < a * C + d + 1 := by omega
      have p2 : a * C + d < a * C + (d + 1) := by omega
      simp only [if_pos p1, if_pos p2, Nat.sub_self]
      refine ⟨rfl, ?_⟩
      rw [fillS_at _ (by omega), show 48 + ((g' a d).toNat - 48) = (g' a d).toNat by omega]
      exact UInt8.ofNat_toNat
    · have p1 : ¬ (r * C + c ≤ a * C + d ∧ a * C + d < r * C + c + 1) := by omega
      simp only [if_neg p1, h1, h2]
      by_cases q2 : a * C + d < r * C + c
      · have p2 : a * C + d < r * C + (c + 1) := by omega
        simp only [if_pos q2, if_pos p2, and_self]
      · have p2 : ¬ (a * C + d < r * C + (c + 1)) := by omega
        simp only [if_neg q2, if_neg p2, and_self]
  · rw [if_neg hd]
    intro a d ha hdd
    obtain ⟨h1, h2⟩ := hm a d ha hdd
    show s.f a d = _ ∧ s.g a d = _
    rw [h1, h2]
    by_cases q : a * C + d = r * C + c
    · obtain ⟨rfl, rfl⟩ := cell_inj hdd hcc q
      have hd2 : dfB f g f' g' a d = false := by simpa using hd
      unfold dfB at hd2
      rw [Bool.or_eq_false_iff, bne_eq_false_iff_eq, bne_eq_false_iff_eq] at hd2
      have p1 : ¬ (a * C + d < a * C + d) := by omega
      have p2 : a * C + d < a * C + (d + 1) := by omega
      simp only [if_neg p1, if_pos p2]
      exact hd2
    · by_cases q2 : a * C + d < r * C + c
      · have p2 : a * C + d < r * C + (c + 1) := by omega
        simp only [if_pos q2, if_pos p2, and_self]
      · have p2 : ¬ (a * C + d < r * C + (c + 1)) := by omega
        simp only [if_neg q2, if_neg p2, and_self]
theorem mix_row (hc : CellsIn R C f' g') {r : Nat} (hr : r < R) {s : Ap} (hm : Mix f g f' g' R C (r * C) s) : ∀ q, q ≤ C → Mix f g f' g' R C (r * C + q) (runU R C s (rowU f g f' g' r q))
  | 0, _ => hm
  | q + 1, hq => by
    rw [rowU, runU_app]
    exact mix_cell hc hr (by omega) (mix_row hc hr hm q (by omega))
theorem mix_all (hc : CellsIn R C f' g') {s : Ap} (hm : Mix f g f' g' R C 0 s) : ∀ k, k ≤ R → Mix f g f' g' R C (k * C) (runU R C s (allU f g f' g' C k))
  | 0, _ => by
    rw [Nat.zero_mul]
    exact hm
  | k + 1, hk => by
    rw [allU, runU_app, Nat.succ_mul]
    exact mix_row hc (by omega) (mix_all hc hm k (by omega)) C (Nat.le_refl _)
/-- In the end it is the other one. -/
theorem run_end (hc : CellsIn R C f' g') (i j i' j' : Nat) : mkR R C (runU R C ⟨f, g, i, j⟩ (finU (allU f g f' g' C R) i j i' j')).f = mkR R C f' ∧ mkR R C (runU R C ⟨f, g, i, j⟩ (finU (allU f g f' g' C R) i j i' j')).g = mkR R C g' ∧
    (runU R C ⟨f, g, i, j⟩ (finU (allU f g f' g' C R) i j i' j')).i = i' ∧ (runU R C ⟨f, g, i, j⟩ (finU (allU f g f' g' C R) i j i' j')).j = j' := by
  have hm := mix_all (f := f) (g := g) hc (s := ⟨f, g, i, j⟩) (fun a c _ _ => by rw [if_neg (by omega), if_neg (by omega)]; exact ⟨rfl, rfl⟩) R (Nat.le_refl _)
  have h1 : mkR R C (runU R C ⟨f, g, i, j⟩ (allU f g f' g' C R)).f = mkR R C f' := mkR_congr fun a c ha hcc => by
    rw [(hm a c ha hcc).1, if_pos (cell_lt ha hcc)]
  have h2 : mkR R C (runU R C ⟨f, g, i, j⟩ (allU f g f' g' C R)).g = mkR R C g' := mkR_congr fun a c ha hcc => by
    rw [(hm a c ha hcc).2, if_pos (cell_lt ha hcc)]
  unfold finU
  split
  · rename_i h
    obtain ⟨hl, hi, hj⟩ := h
    rw [hl] at h1 h2
    exact ⟨h1, h2, Int.ofNat.inj hi, Int.ofNat.inj hj⟩
  · rw [runU_app]
    generalize runU R C ⟨f, g, i, j⟩ (allU f g f' g' C R) = s at h1 h2 ⊢
    have e : runU R C s [⟨0, i', j', 0, ⟨#[]⟩⟩] = ⟨s.f, s.g, i', j'⟩ := rfl
    rw [e]
    exact ⟨h1, h2, rfl, rfl⟩
theorem finU_ok (hc : CellsIn R C f' g') (i j : Int) (i' j' : Nat) (hi : i' < R) (hj : j' < C) : ∀ u ∈ finU (allU f g f' g' C R) i j i' j', UOk R C u := by
  intro u hu
  unfold finU at hu
  split at hu
  · cases hu
  · rcases List.mem_append.1 hu with hu | hu
    · exact allU_ok hc R (Nat.le_refl _) u hu
    · obtain rfl := List.mem_singleton.1 hu
      exact .inl ⟨rfl, Nat.zero_le _, by show 0 ≤ (i' : Int) ∧ (i' : Int) < R; omega, by show 0 ≤ (j' : Int) ∧ (j' : Int) < C; omega⟩
theorem finU_len (i j i' j' : Int) : (finU (allU f g f' g' C R) i j i' j').length ≤ 2 * (R * C) + 1 := by
  have h := allU_len f g f' g' C R
  unfold finU
  split
  · exact Nat.zero_le _
  · rw [List.length_append, List.length_singleton]
    omega
/-- Apply, of a display told by its cells. -/
theorem apply_st (x y : Nat) (s : Ap) (u : Up) (hx : x ≠ 2) (hy : y ≠ 2) (hR : R ≤ 40) (hC : C ≤ 80) (hs : StOk R C s) (hu : UOk R C u) :
    Fun E 9 [dv x y (mkR R C s.f) (mkR R C s.g) s.i s.j, uv u.op u.row u.col u.n u.t] (.tuple #[dv 0 0 (mkR R C (stU R C s u).f) (mkR R C (stU R C s u).g) (stU R C s u).i (stU R C s u).j, .int .i64 0]) := by
  obtain ⟨hc, hi, hj⟩ := hs
  have hR0 : 1 ≤ R := by omega
  have hC0 : 1 ≤ C := by omega
  have hg : Good (mkR R C s.f) (mkR R C s.g) s.i s.j := good_of ⟨hR0, hR⟩ ⟨hC0, hC⟩ hi hj hc
  have hsz : ∀ h : Nat → Nat → UInt8, ∀ k, (rowAt (mkR R C h) k).size ≤ 140737488351232 := fun h k => by
    rcases Nat.lt_or_ge k R with q | q
    · rw [mkR_size q]; omega
    · rw [rowAt, List.getD_eq_getElem?_getD, List.getElem?_eq_none (by rw [mkR_len]; exact q)]; decide
  have hf := hu.fits
  have ht : u.t.size ≤ 200 := by
    rcases hu with h | h
    · exact h.2.1
    · exact h.2.1.2
  have h := Apply9 x y (mkR R C s.f) (mkR R C s.g) s.i s.j u.op u.row u.col u.n u.t (fun e => absurd e hx) (fun e => absurd e hy) (hsz _) (hsz _) (by omega)
  have hok : ApOk (mkR R C s.f) (mkR R C s.g) s.i s.j u.op u.row u.col u.n u.t := ⟨hg, by rw [mkR_len, mkR_size hR0]; exact hf⟩
  have e : ApV (mkR R C s.f) (mkR R C s.g) s.i s.j u.op u.row u.col u.n u.t = _ := if_pos hok
  rw [e] at h
  unfold apV apD at h
  rw [mkR_len, mkR_size hR0] at h
  have cf : ∀ (h : Nat → Nat → UInt8) a c, a < R → c < C → cellF (mkR R C h) a c = h a c := fun h a c ha hcc => by
    unfold cellF
    exact mkR_at ha hcc
  have ct : ∀ (h : Nat → Nat → UInt8) (p : Nat) (t : ByteArray), mkR R C (tF C p t (cellF (mkR R C h))) = mkR R C (tF C p t h) := fun h p t => mkR_congr fun a c ha hcc => by
    unfold tF
    split
    · rfl
    · exact cf h a c ha hcc
  have c0 : ∀ (h : Nat → Nat → UInt8), mkR R C (cellF (mkR R C h)) = mkR R C h := fun h => mkR_congr (cf h)
  rw [Int.toNat_natCast, Int.toNat_natCast] at h
  unfold stU
  unfold apF at h ⊢
  rcases hu with hu | hu
  · simp only [if_pos hu.1] at h ⊢
    rw [c0, c0] at h
    exact h
  · have hn : ¬ u.op = 0 := by rw [hu.1]; decide
    simp only [if_neg hn, if_pos hu.1] at h ⊢
    rw [ct, ct] at h
    exact h
end
theorem outF_eq (l : List Up) : outF l = FS 26 l.length (if l = [] then 2 else 0) (ucl l).toArray := by
  unfold outF
  split
  · rename_i h
    subst h
    rfl
  · rfl
theorem f5 : E.funcs 5 = some Try.f5 := by kernel_rfl
def xAt (k x : Nat) : Nat := if k = 0 then x else 0
theorem xAt_ne {k x : Nat} (h : x ≠ 2) : xAt k x ≠ 2 := by
  unfold xAt
  split
  · exact h
  · decide
set_option maxHeartbeats 4000000 in
theorem law5_ok (x y x' y' R C : Nat) (f g f' g' : Nat → Nat → UInt8) (i j i' j' : Nat) (hx : x ≠ 2) (hy : y ≠ 2) (hR0 : 1 ≤ R) (hR : R ≤ 40) (hC0 : 1 ≤ C) (hC : C ≤ 80) (hc : CellsIn R C f g) (hc' : CellsIn R C f' g') (hi : i < R) (hj : j < C) (hi' : i' < R) (hj' : j' < C)
    (cV : Fun E 15 [dv x y (mkR R C f) (mkR R C g) i j] (.bool true)) (cW : Fun E 15 [dv x' y' (mkR R C f') (mkR R C g') i' j'] (.bool true)) (cV0 : Fun E 16 [dv 0 0 (mkR R C f) (mkR R C g) i j] (.bool true)) (cW0 : Fun E 16 [dv 0 0 (mkR R C f') (mkR R C g') i' j'] (.bool true)) :
    Fun E 5 [dv x y (mkR R C f) (mkR R C g) i j, dv x' y' (mkR R C f') (mkR R C g') i' j'] (.bool true) := by
  refine Fun.of f5 rfl (of_decide_eq_true (by kernel_rfl)) rfl ?_
  have cD := differ19 x y x' y' R C f g f' g' i j i' j' hR0 hR hC0 hC hc' cV cW
  have hlen : (mkR R C f).length ≤ 8796093022208 ∧ (mkR R C g).length ≤ 8796093022208 ∧ (mkR R C f').length ≤ 8796093022208 ∧ (mkR R C g').length ≤ 8796093022208 := by
    rw [mkR_len, mkR_len, mkR_len, mkR_len]; omega
  have cT := to11 x y (mkR R C f) (mkR R C g) i j hlen.1 hlen.2.1
  have cT' := to11 x' y' (mkR R C f') (mkR R C g') i' j' hlen.2.2.1 hlen.2.2.2
  have l1 : 0 ≤ (0 : Int) ∧ (0 : Int) < (mkR R C f).length := by rw [mkR_len]; omega
  have l2 : 0 ≤ (0 : Int) ∧ (0 : Int) < (mkR R C f').length := by rw [mkR_len]; omega
  have v1 := strs_0 (mkR R C f) (by rw [mkR_len]; omega)
  have v2 := strs_0 (mkR R C f') (by rw [mkR_len]; omega)
  have d1 : (((mkR R C f).length : Int) != ((mkR R C f').length : Int)) = false := by rw [mkR_len, mkR_len]; simp
  have d2 : (((rowAt (mkR R C f) 0).size : Int) != ((rowAt (mkR R C f') 0).size : Int)) = false := by rw [mkR_size (by omega), mkR_size (by omega)]; simp
  obtain ⟨z1, z2, z3, z4⟩ := run_end (f := f) (g := g) hc' i j i' j'
  have hok := finU_ok (f := f) (g := g) hc' i j i' j' hi' hj'
  have hl0 := finU_len (f := f) (g := g) (f' := f') (g' := g') (R := R) (C := C) i j i' j'
  have hRC : R * C ≤ 40 * 80 := Nat.mul_le_mul hR hC
  rw [outF_eq] at cD
  have cS := sane18
  generalize finU (allU f g f' g' C R) i j i' j' = l at cD z1 z2 z3 z4 hok hl0
  have d3 : decide ((l.length : Int) > IntKind.i64.wrap (IntKind.i64.wrap (IntKind.i64.wrap (4 * ((mkR R C f).length : Int)) * ((rowAt (mkR R C f) 0).size : Int)) + 8)) = false := by
    have e : (4 * ((R : Nat) : Int)) * ((C : Nat) : Int) = ((4 * (R * C) : Nat) : Int) := by rw [Int.natCast_mul, Int.natCast_mul, Int.mul_assoc]; rfl
    rw [mkR_len, mkR_size (by omega), wr (4 * ((R : Nat) : Int)) (by omega) (by omega), e, wr ((4 * (R * C) : Nat) : Int) (by omega) (by omega), wr _ (by omega) (by omega)]
    exact decide_eq_false (by omega)
  unfold dv strs at cD cT cT' cV0 cW0 ⊢
  refine Wp.seq (Wp.text ?_)
  refine md 2 (.pointer (some ⟨0, 0, none⟩)) (Blk.mk 24 true [Value.iface 9 (Value.iface (List.length (mkR R C f)) (Value.iface x (Value.agg (List.toArray (List.map Value.string (mkR R C f)))))), Value.iface 9 (Value.iface (List.length (mkR R C g)) (Value.iface y (Value.agg (List.toArray (List.map Value.string (mkR R C g)))))), Value.int .i64 (↑i : Int), Value.int .i64 (↑j : Int)]) ?_
  refine md 3 (.pointer (some ⟨1, 0, none⟩)) (Blk.mk 24 true [Value.iface 9 (Value.iface (List.length (mkR R C f')) (Value.iface x' (Value.agg (List.toArray (List.map Value.string (mkR R C f')))))), Value.iface 9 (Value.iface (List.length (mkR R C g')) (Value.iface y' (Value.agg (List.toArray (List.map Value.string (mkR R C g')))))), Value.int .i64 (↑i' : Int), Value.int .i64 (↑j' : Int)]) ?_
  refine kp 4 (.bool false) ?_
  refine WpOps.nil (thenK_at (Wp.seq (Wp.text ?_)))
  refine kp 11 (.agg #[Value.iface 9 (Value.iface (List.length (mkR R C f)) (Value.iface x (Value.agg (List.toArray (List.map Value.string (mkR R C f)))))), Value.iface 9 (Value.iface (List.length (mkR R C g)) (Value.iface y (Value.agg (List.toArray (List.map Value.string (mkR R C g)))))), Value.int .i64 (↑i : Int), Value.int .i64 (↑j : Int)]) ?_
  refine kp 12 (.agg #[Value.iface 9 (Value.iface (List.length (mkR R C f')) (Value.iface x' (Value.agg (List.toArray (List.map Value.string (mkR R C f')))))), Value.iface 9 (Value.iface (List.length (mkR R C g')) (Value.iface y' (Value.agg (List.toArray (List.map Value.string (mkR R C g')))))), Value.int .i64 (↑i' : Int), Value.int .i64 (↑j' : Int)]) ?_
  refine fr 13 19 [Value.agg #[Value.iface 9 (Value.iface (List.length (mkR R C f)) (Value.iface x (Value.agg (List.toArray (List.map Value.string (mkR R C f)))))), Value.iface 9 (Value.iface (List.length (mkR R C g)) (Value.iface y (Value.agg (List.toArray (List.map Value.string (mkR R C g)))))), Value.int .i64 (↑i : Int), Value.int .i64 (↑j : Int)], Value.agg #[Value.iface 9 (Value.iface (List.length (mkR R C f')) (Value.iface x' (Value.agg (List.toArray (List.map Value.string (mkR R C f')))))), Value.iface 9 (Value.iface (List.length (mkR R C g')) (Value.iface y' (Value.agg (List.toArray (List.map Value.string (mkR R C g')))))), Value.int .i64 (↑i' : Int), Value.int .i64 (↑j' : Int)]] ?_
  refine WpFun.of (cD) ?_
  refine kp 10 (.tuple #[FS 26 (List.length l) (if l = [] then 2 else 0) (List.toArray (ucl l)), Value.int .i64 0]) ?_
  refine kp 14 (.iface 26 (Value.iface (List.length l) (Value.iface (if l = [] then 2 else 0) (Value.agg (List.toArray (ucl l)))))) ?_
  refine kp 15 (.int IntKind.i64 0) ?_
  refine kp 5 (.iface 26 (Value.iface (List.length l) (Value.iface (if l = [] then 2 else 0) (Value.agg (List.toArray (ucl l)))))) ?_
  refine kp 6 (.int IntKind.i64 0) ?_
  refine WpOps.nil (thenK_at (Wp.seq (Wp.seq ?_)))
  refine Wp.region (by kernel_rfl) ?_
  refine kp 16 (.agg #[Value.iface 9 (Value.iface (List.length (mkR R C f)) (Value.iface x (Value.agg (List.toArray (List.map Value.string (mkR R C f)))))), Value.iface 9 (Value.iface (List.length (mkR R C g)) (Value.iface y (Value.agg (List.toArray (List.map Value.string (mkR R C g)))))), Value.int .i64 (↑i : Int), Value.int .i64 (↑j : Int)]) ?_
  refine fr 17 11 [Value.agg #[Value.iface 9 (Value.iface (List.length (mkR R C f)) (Value.iface x (Value.agg (List.toArray (List.map Value.string (mkR R C f)))))), Value.iface 9 (Value.iface (List.length (mkR R C g)) (Value.iface y (Value.agg (List.toArray (List.map Value.string (mkR R C g)))))), Value.int .i64 (↑i : Int), Value.int .i64 (↑j : Int)]] ?_
  refine WpFun.of (cT) ?_
  refine fr 18 16 [Value.agg #[FS 9 (List.length (mkR R C f)) 0 (List.toArray (List.map Value.string (mkR R C f))), FS 9 (List.length (mkR R C g)) 0 (List.toArray (List.map Value.string (mkR R C g))), Value.int .i64 (↑i : Int), Value.int .i64 (↑j : Int)]] ?_
  refine WpFun.of (cV0) ?_
  refine kp 19 (.bool false) ?_
  refine kp 20 (.bool false) ?_
  refine kp 21 (.agg #[Value.iface 9 (Value.iface (List.length (mkR R C f')) (Value.iface x' (Value.agg (List.toArray (List.map Value.string (mkR R C f')))))), Value.iface 9 (Value.iface (List.length (mkR R C g')) (Value.iface y' (Value.agg (List.toArray (List.map Value.string (mkR R C g')))))), Value.int .i64 (↑i' : Int), Value.int .i64 (↑j' : Int)]) ?_
  refine fr 22 11 [Value.agg #[Value.iface 9 (Value.iface (List.length (mkR R C f')) (Value.iface x' (Value.agg (List.toArray (List.map Value.string (mkR R C f')))))), Value.iface 9 (Value.iface (List.length (mkR R C g')) (Value.iface y' (Value.agg (List.toArray (List.map Value.string (mkR R C g')))))), Value.int .i64 (↑i' : Int), Value.int .i64 (↑j' : Int)]] ?_
  refine WpFun.of (cT') ?_
  refine fr 23 16 [Value.agg #[FS 9 (List.length (mkR R C f')) 0 (List.toArray (List.map Value.string (mkR R C f'))), FS 9 (List.length (mkR R C g')) 0 (List.toArray (List.map Value.string (mkR R C g'))), Value.int .i64 (↑i' : Int), Value.int .i64 (↑j' : Int)]] ?_
  refine WpFun.of (cW0) ?_
  refine kp 24 (.bool false) ?_
  refine kp 25 (.bool false) ?_
  refine kp 26 (.bool false) ?_
  refine kp 27 (.pointer (some ⟨0, 0, none⟩)) ?_
  refine kp 28 (.iface 9 (Value.iface (List.length (mkR R C f)) (Value.iface x (Value.agg (List.toArray (List.map Value.string (mkR R C f))))))) ?_
  refine kp 29 (.int IntKind.i64 (↑(List.length (mkR R C f)) : Int)) ?_
  refine kp 30 (.pointer (some ⟨1, 0, none⟩)) ?_
  refine kp 31 (.iface 9 (Value.iface (List.length (mkR R C f')) (Value.iface x' (Value.agg (List.toArray (List.map Value.string (mkR R C f'))))))) ?_
  refine kp 32 (.int IntKind.i64 (↑(List.length (mkR R C f')) : Int)) ?_
  refine kp 33 (.bool false) ?_ (hop := fun _ => by_fact d1)
  refine kp 34 (.bool false) ?_
  refine kp 35 (.bool false) ?_
  refine kp 36 (.pointer (some ⟨0, 0, none⟩)) ?_
  refine kp 37 (.iface 9 (Value.iface (List.length (mkR R C f)) (Value.iface x (Value.agg (List.toArray (List.map Value.string (mkR R C f))))))) ?_
  refine kp 38 (.iface 9 (Value.iface 0 (Value.agg (List.toArray (List.map Value.string (mkR R C f)))))) ?_ (hop := fun _ => o_indexI (e := 9) (size := 1) (a := 0) l1)
  refine kp 39 (.string (rowAt (mkR R C f) 0)) ?_ (hop := fun _ => o_loadI1 (0) v1)
  refine kp 40 (.int IntKind.i64 (↑(ByteArray.size (rowAt (mkR R C f) 0)) : Int)) ?_
  refine kp 41 (.pointer (some ⟨1, 0, none⟩)) ?_
  refine kp 42 (.iface 9 (Value.iface (List.length (mkR R C f')) (Value.iface x' (Value.agg (List.toArray (List.map Value.string (mkR R C f'))))))) ?_
  refine kp 43 (.iface 9 (Value.iface 0 (Value.agg (List.toArray (List.map Value.string (mkR R C f')))))) ?_ (hop := fun _ => o_indexI (e := 9) (size := 1) (a := 0) l2)
  refine kp 44 (.string (rowAt (mkR R C f') 0)) ?_ (hop := fun _ => o_loadI1 (0) v2)
  refine kp 45 (.int IntKind.i64 (↑(ByteArray.size (rowAt (mkR R C f') 0)) : Int)) ?_
  refine kp 46 (.bool false) ?_ (hop := fun _ => by_fact d2)
  refine kp 47 (.bool false) ?_
  refine WpOps.nil (thenK_at (off' (Wp.skip (thenK_at (Wp.seq (Wp.seq ?_))))))
  refine Wp.region (by kernel_rfl) ?_
  refine kp 58 (.int IntKind.i64 0) ?_
  refine kp 59 (.bool false) ?_
  refine kp 60 (.bool false) ?_
  refine kp 61 (.iface 26 (Value.iface (List.length l) (Value.iface (if l = [] then 2 else 0) (Value.agg (List.toArray (ucl l)))))) ?_
  refine kp 62 (.int IntKind.i64 (↑(List.length l) : Int)) ?_
  refine kp 63 (.pointer (some ⟨0, 0, none⟩)) ?_
  refine kp 64 (.iface 9 (Value.iface (List.length (mkR R C f)) (Value.iface x (Value.agg (List.toArray (List.map Value.string (mkR R C f))))))) ?_
  refine kp 65 (.int IntKind.i64 (↑(List.length (mkR R C f)) : Int)) ?_
  refine kp 66 (.int IntKind.i64 (IntKind.wrap .i64 (4 * (↑(List.length (mkR R C f)) : Int)))) ?_
  refine kp 67 (.pointer (some ⟨0, 0, none⟩)) ?_
  refine kp 68 (.iface 9 (Value.iface (List.length (mkR R C f)) (Value.iface x (Value.agg (List.toArray (List.map Value.string (mkR R C f))))))) ?_
  refine kp 69 (.iface 9 (Value.iface 0 (Value.agg (List.toArray (List.map Value.string (mkR R C f)))))) ?_ (hop := fun _ => o_indexI (e := 9) (size := 1) (a := 0) l1)
  refine kp 70 (.string (rowAt (mkR R C f) 0)) ?_ (hop := fun _ => o_loadI1 (0) v1)
  refine kp 71 (.int IntKind.i64 (↑(ByteArray.size (rowAt (mkR R C f) 0)) : Int)) ?_
  refine kp 72 (.int IntKind.i64 (IntKind.wrap .i64 (IntKind.wrap .i64 (4 * (↑(List.length (mkR R C f)) : Int)) * (↑(ByteArray.size (rowAt (mkR R C f) 0)) : Int)))) ?_
  refine kp 73 (.int IntKind.i64 (IntKind.wrap .i64 (IntKind.wrap .i64 (IntKind.wrap .i64 (4 * (↑(List.length (mkR R C f)) : Int)) * (↑(ByteArray.size (rowAt (mkR R C f) 0)) : Int)) + 8))) ?_
  refine kp 74 (.bool false) ?_ (hop := fun _ => by_fact d3)
  refine kp 75 (.bool false) ?_
  refine WpOps.nil (thenK_at (off' (Wp.skip (thenK_at (Wp.seq (Wp.seq (Wp.text ?_)))))))
  refine kp 7 (.int IntKind.i64 0) ?_
  refine WpOps.nil (thenK_at (Wp.block ?_))
  refine Wp.loop (G := Nat) (fun k => layj [(2, .pointer (some ⟨0, 0, none⟩)), (3, .pointer (some ⟨1, 0, none⟩)), (5, FS 26 l.length (if l = [] then 2 else 0) (ucl l).toArray), (7, .int .i64 k)]) (fun k => heapOf [⟨24, true, [strs (xAt k x) (mkR R C (runU R C ⟨f, g, i, j⟩ (l.take k)).f), strs (xAt k y) (mkR R C (runU R C ⟨f, g, i, j⟩ (l.take k)).g), .int .i64 (runU R C ⟨f, g, i, j⟩ (l.take k)).i, .int .i64 (runU R C ⟨f, g, i, j⟩ (l.take k)).j]⟩, ⟨24, true, [strs x' (mkR R C f'), strs y' (mkR R C g'), .int .i64 i', .int .i64 j']⟩]) (fun k => l.length - k) (fun k => k ≤ l.length) 0
    (View.of [0, 1] [⟨24, true, [strs (xAt 0 x) (mkR R C (runU R C ⟨f, g, i, j⟩ (l.take 0)).f), strs (xAt 0 y) (mkR R C (runU R C ⟨f, g, i, j⟩ (l.take 0)).g), .int .i64 (runU R C ⟨f, g, i, j⟩ (l.take 0)).i, .int .i64 (runU R C ⟨f, g, i, j⟩ (l.take 0)).j]⟩, ⟨24, true, [strs x' (mkR R C f'), strs y' (mkR R C g'), .int .i64 i', .int .i64 j']⟩] _ (by decide) rfl ⟨⟨_, by kernel_rfl, CellsOk.eq rfl rfl⟩, ⟨_, by kernel_rfl, CellsOk.eq rfl rfl⟩, trivial⟩ ⟨⟨by kernel_rfl, rfl⟩, ⟨by kernel_rfl, rfl⟩, ⟨by kernel_rfl, rfl⟩, ⟨by kernel_rfl, rfl⟩, trivial⟩) (Nat.zero_le _) ?_
  intro k hk
  by_cases hkl : k < l.length
  · obtain ⟨s, hs⟩ : ∃ s, s = runU R C ⟨f, g, i, j⟩ (l.take k) := ⟨_, rfl⟩
    have hsok : StOk R C s := by
      rw [hs]
      exact runU_ok ⟨hc, hi, hj⟩ fun u hu => hok u (List.mem_of_mem_take hu)
    obtain ⟨u, hu⟩ : ∃ u, l[k]? = some u := ⟨_, List.getElem?_eq_getElem hkl⟩
    have huok := hok u (List.mem_of_getElem? hu)
    have hst : stU R C s u = runU R C ⟨f, g, i, j⟩ (l.take (k + 1)) := by
      rw [List.take_add_one, hu, runU_app, ← hs]
      rfl
    have cA := apply_st (xAt k x) (xAt k y) s u (xAt_ne hx) (xAt_ne hy) hR hC hsok huok
    have hv := ucl_get l k u hu
    have hv2 : cellsAt (ucl l) ((k : Int).toNat * 5) 5 = some [.int .i64 u.op, .int .i64 u.row, .int .i64 u.col, .int .i64 u.n, .string u.t] := by
      rw [Int.toNat_natCast]
      exact hv
    have hlt : decide ((k : Int) < l.length) = true := decide_eq_true (by omega)
    have l5 : 0 ≤ (k : Int) ∧ (k : Int) < l.length := by omega
    rw [← hs]
    rw [hst] at cA
    obtain ⟨s2, hs2⟩ : ∃ s2, s2 = runU R C ⟨f, g, i, j⟩ (l.take (k + 1)) := ⟨_, rfl⟩
    rw [← hs2] at cA
    unfold dv uv strs at cA
    unfold strs
    refine Wp.seq (Wp.seq (Wp.text ?_))
    refine kp 76 (.int IntKind.i64 (↑k : Int)) ?_
    refine kp 77 (.iface 26 (Value.iface (List.length l) (Value.iface (if l = [] then 2 else 0) (Value.agg (List.toArray (ucl l)))))) ?_
    refine kp 78 (.int IntKind.i64 (↑(List.length l) : Int)) ?_
    refine kp 79 (.bool true) ?_ (hop := fun _ => by_fact hlt)
    refine WpOps.nil (thenK_at (on' (Wp.skip (thenK_at (Wp.seq (Wp.block (Wp.seq ?_)))))))
    refine Wp.region (by kernel_rfl) ?_
    refine kp 83 (.agg #[Value.iface 9 (Value.iface (List.length (mkR R C (Ap.f s))) (Value.iface (xAt k x) (Value.agg (List.toArray (List.map Value.string (mkR R C (Ap.f s))))))), Value.iface 9 (Value.iface (List.length (mkR R C (Ap.g s))) (Value.iface (xAt k y) (Value.agg (List.toArray (List.map Value.string (mkR R C (Ap.g s))))))), Value.int .i64 (↑(Ap.i s) : Int), Value.int .i64 (↑(Ap.j s) : Int)]) ?_
    refine kp 84 (.iface 26 (Value.iface (List.length l) (Value.iface (if l = [] then 2 else 0) (Value.agg (List.toArray (ucl l)))))) ?_
    refine kp 85 (.int IntKind.i64 (↑k : Int)) ?_
    refine kp 86 (.iface 26 (Value.iface (Int.toNat (↑k : Int) * 5) (Value.agg (List.toArray (ucl l))))) ?_ (hop := fun _ => o_indexI (e := 26) (size := 5) (a := (↑k : Int)) l5)
    refine kp 87 (.agg (List.toArray (ucells u))) ?_ (hop := fun _ => o_loadIA (Int.toNat (↑k : Int) * 5) hv)
    refine fr 88 9 [Value.agg #[Value.iface 9 (Value.iface (List.length (mkR R C (Ap.f s))) (Value.iface (xAt k x) (Value.agg (List.toArray (List.map Value.string (mkR R C (Ap.f s))))))), Value.iface 9 (Value.iface (List.length (mkR R C (Ap.g s))) (Value.iface (xAt k y) (Value.agg (List.toArray (List.map Value.string (mkR R C (Ap.g s))))))), Value.int .i64 (↑(Ap.i s) : Int), Value.int .i64 (↑(Ap.j s) : Int)], Value.agg (List.toArray (ucells u))] ?_
    refine WpFun.of (cA) ?_
    refine kp 82 (.tuple #[Value.agg #[FS 9 (List.length (mkR R C (Ap.f s2))) 0 (List.toArray (List.map Value.string (mkR R C (Ap.f s2)))), FS 9 (List.length (mkR R C (Ap.g s2))) 0 (List.toArray (List.map Value.string (mkR R C (Ap.g s2)))), Value.int .i64 (↑(Ap.i s2) : Int), Value.int .i64 (↑(Ap.j s2) : Int)], Value.int .i64 0]) ?_
    refine kp 89 (.agg #[FS 9 (List.length (mkR R C (Ap.f s2))) 0 (List.toArray (List.map Value.string (mkR R C (Ap.f s2)))), FS 9 (List.length (mkR R C (Ap.g s2))) 0 (List.toArray (List.map Value.string (mkR R C (Ap.g s2)))), Value.int .i64 (↑(Ap.i s2) : Int), Value.int .i64 (↑(Ap.j s2) : Int)]) ?_
    refine kp 90 (.int IntKind.i64 0) ?_
    refine md 8 (.pointer (some ⟨2, 0, none⟩)) (Blk.mk 24 true [Value.slice none 0 0, Value.slice none 0 0, Value.int .i64 0, Value.int .i64 0]) ?_
    refine ld (.tuple #[]) (2) (Blk.mk 24 true [Value.iface 9 (Value.iface (List.length (mkR R C (Ap.f s2))) (Value.iface 0 (Value.agg (List.toArray (List.map Value.string (mkR R C (Ap.f s2))))))), Value.iface 9 (Value.iface (List.length (mkR R C (Ap.g s2))) (Value.iface 0 (Value.agg (List.toArray (List.map Value.string (mkR R C (Ap.g s2))))))), Value.int .i64 (↑(Ap.i s2) : Int), Value.int .i64 (↑(Ap.j s2) : Int)]) ?_
    refine kp 9 (.int IntKind.i64 0) ?_
    refine WpOps.nil (thenK_at (Wp.seq (Wp.seq (Wp.text ?_))))
    refine kp 91 (.int IntKind.i64 0) ?_
    refine kp 92 (.bool false) ?_
    refine WpOps.nil (thenK_at (off' (Wp.skip (thenK_at (Wp.text ?_)))))
    refine kp 93 (.agg #[Value.iface 9 (Value.iface (List.length (mkR R C (Ap.f s2))) (Value.iface 0 (Value.agg (List.toArray (List.map Value.string (mkR R C (Ap.f s2))))))), Value.iface 9 (Value.iface (List.length (mkR R C (Ap.g s2))) (Value.iface 0 (Value.agg (List.toArray (List.map Value.string (mkR R C (Ap.g s2))))))), Value.int .i64 (↑(Ap.i s2) : Int), Value.int .i64 (↑(Ap.j s2) : Int)]) ?_
    refine ld (.tuple #[]) (0) (Blk.mk 24 true [Value.iface 9 (Value.iface (List.length (mkR R C (Ap.f s2))) (Value.iface 0 (Value.agg (List.toArray (List.map Value.string (mkR R C (Ap.f s2))))))), Value.iface 9 (Value.iface (List.length (mkR R C (Ap.g s2))) (Value.iface 0 (Value.agg (List.toArray (List.map Value.string (mkR R C (Ap.g s2))))))), Value.int .i64 (↑(Ap.i s2) : Int), Value.int .i64 (↑(Ap.j s2) : Int)]) ?_
    refine WpOps.nil (blockK_norm (thenK_at (Wp.text ?_)))
    refine kp 80 (.int IntKind.i64 (↑k : Int)) ?_
    refine kp 81 (.int IntKind.i64 (IntKind.wrap .i64 ((↑k : Int) + 1))) ?_
    refine kp 7 (.int IntKind.i64 (IntKind.wrap .i64 ((↑k : Int) + 1))) ?_
    refine WpOps.nil (thenK_at ?_)
    refine ⟨k + 1, by omega, by omega, ?_⟩
    try dsimp only
    rw [← hs2]
    exact View.of [0, 1] [⟨24, true, [strs (xAt (k + 1) x) (mkR R C s2.f), strs (xAt (k + 1) y) (mkR R C s2.g), .int .i64 s2.i, .int .i64 s2.j]⟩, ⟨24, true, [strs x' (mkR R C f'), strs y' (mkR R C g'), .int .i64 i', .int .i64 j']⟩] _ (by decide) rfl ⟨⟨_, by kernel_rfl, CellsOk.eq rfl rfl⟩, ⟨_, by kernel_rfl, CellsOk.eq rfl rfl⟩, trivial⟩ ⟨⟨by kernel_rfl, rfl⟩, ⟨by kernel_rfl, rfl⟩, ⟨by kernel_rfl, rfl⟩, ⟨congrArg (Value.int .i64) (wr _ (by omega) (by omega)), rfl⟩, trivial⟩
  · obtain rfl : k = l.length := by omega
    have hlt : decide ((l.length : Int) < l.length) = false := decide_eq_false (by omega)
    rw [List.take_length, z1, z2, z3, z4]
    have cT2 := to11 (xAt l.length x) (xAt l.length y) (mkR R C f') (mkR R C g') i' j' hlen.2.2.1 hlen.2.2.2
    have cS1 := same17 0 0 0 0 (mkR R C f') (mkR R C g') i' j' hlen.2.2.1 hlen.2.2.2
    unfold dv strs at cT2 cS1
    unfold strs
    refine Wp.seq (Wp.seq (Wp.text ?_))
    refine kp 76 (.int IntKind.i64 (↑(List.length l) : Int)) ?_
    refine kp 77 (.iface 26 (Value.iface (List.length l) (Value.iface (if l = [] then 2 else 0) (Value.agg (List.toArray (ucl l)))))) ?_
    refine kp 78 (.int IntKind.i64 (↑(List.length l) : Int)) ?_
    refine kp 79 (.bool false) ?_ (hop := fun _ => by_fact hlt)
    refine WpOps.nil (thenK_at (off' (Wp.exit (thenK_exit (thenK_exit (blockK_hit (thenK_at (Wp.seq ?_))))))))
    refine Wp.region (by kernel_rfl) ?_
    refine kp 94 (.agg #[Value.iface 9 (Value.iface (List.length (mkR R C f')) (Value.iface (xAt (List.length l) x) (Value.agg (List.toArray (List.map Value.string (mkR R C f')))))), Value.iface 9 (Value.iface (List.length (mkR R C g')) (Value.iface (xAt (List.length l) y) (Value.agg (List.toArray (List.map Value.string (mkR R C g')))))), Value.int .i64 (↑i' : Int), Value.int .i64 (↑j' : Int)]) ?_
    refine fr 95 11 [Value.agg #[Value.iface 9 (Value.iface (List.length (mkR R C f')) (Value.iface (xAt (List.length l) x) (Value.agg (List.toArray (List.map Value.string (mkR R C f')))))), Value.iface 9 (Value.iface (List.length (mkR R C g')) (Value.iface (xAt (List.length l) y) (Value.agg (List.toArray (List.map Value.string (mkR R C g')))))), Value.int .i64 (↑i' : Int), Value.int .i64 (↑j' : Int)]] ?_
    refine WpFun.of (cT2) ?_
    refine kp 96 (.agg #[Value.iface 9 (Value.iface (List.length (mkR R C f')) (Value.iface x' (Value.agg (List.toArray (List.map Value.string (mkR R C f')))))), Value.iface 9 (Value.iface (List.length (mkR R C g')) (Value.iface y' (Value.agg (List.toArray (List.map Value.string (mkR R C g')))))), Value.int .i64 (↑i' : Int), Value.int .i64 (↑j' : Int)]) ?_
    refine fr 97 11 [Value.agg #[Value.iface 9 (Value.iface (List.length (mkR R C f')) (Value.iface x' (Value.agg (List.toArray (List.map Value.string (mkR R C f')))))), Value.iface 9 (Value.iface (List.length (mkR R C g')) (Value.iface y' (Value.agg (List.toArray (List.map Value.string (mkR R C g')))))), Value.int .i64 (↑i' : Int), Value.int .i64 (↑j' : Int)]] ?_
    refine WpFun.of (cT') ?_
    refine fr 98 17 [Value.agg #[FS 9 (List.length (mkR R C f')) 0 (List.toArray (List.map Value.string (mkR R C f'))), FS 9 (List.length (mkR R C g')) 0 (List.toArray (List.map Value.string (mkR R C g'))), Value.int .i64 (↑i' : Int), Value.int .i64 (↑j' : Int)], Value.agg #[FS 9 (List.length (mkR R C f')) 0 (List.toArray (List.map Value.string (mkR R C f'))), FS 9 (List.length (mkR R C g')) 0 (List.toArray (List.map Value.string (mkR R C g'))), Value.int .i64 (↑i' : Int), Value.int .i64 (↑j' : Int)]] ?_
    refine WpFun.of (cS1) ?_
    refine kp 99 (.bool true) ?_
    refine fr 100 18 [] ?_
    refine WpFun.of (cS) ?_
    refine kp 101 (.bool true) ?_
    refine kp 4 (.bool true) ?_
    refine WpOps.nil (thenK_at (Wp.ret ?_))
    refine endK_retn [Value.bool true] (Value.bool true) (by kernel_rfl) (by kernel_rfl) ?_
    rfl
end Go.Proofs.Ytlejgfeoffhjoaa.D
