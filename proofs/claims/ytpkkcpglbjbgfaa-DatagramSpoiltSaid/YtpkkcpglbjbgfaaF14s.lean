/- A datagram in bytes: what is written of it is read so, and what is read is written so. -/
import Derived.Test.YtpkkcpglbjbgfaaFwLem
import Derived.Test.YtpkkcpglbjbgfaaF14q
namespace Go.Proofs.Ytpkkcpglbjbgfaa.D
open Go.Fw Go.RowKit

/-- The numbers that are written. -/
def head7 (g : Gr) : List Int := [g.number, g.life, g.at', g.total, g.report, flagsI g, (g.fr.length : Int)]
def nl (g : Gr) : List Int := head7 g ++ (g.fr ++ ((g.to.length : Int) :: g.to))
/-- A number in two bytes. -/
def b2 (n : Int) : List UInt8 := [UInt8.ofNat (n.toNat / 256), UInt8.ofNat n.toNat]
def bs (l : List Int) : List UInt8 := l.flatMap b2
def body (g : Gr) : ByteArray := ⟨((71 : UInt8) :: (bs (nl g) ++ g.data.data.toList)).toArray⟩
def wrt (g : Gr) : ByteArray := body g ++ sumS (body g)
/-- A number of two bytes of a list. -/
def numL (t : List UInt8) (p : Nat) : Int := ((256 * (t.getD p 0).toNat + (t.getD (p + 1) 0).toNat : Nat) : Int)
theorem bs_len (l : List Int) : (bs l).length = 2 * l.length := by
  induction l with
  | nil => rfl
  | cons n r ih =>
    simp only [bs, List.flatMap_cons, List.length_append, List.length_cons] at ih ⊢
    rw [ih]
    simp only [b2, List.length_cons, List.length_nil]
    omega
theorem bs_app (l k : List Int) : bs (l ++ k) = bs l ++ bs k := List.flatMap_append
theorem numL_bs (l : List Int) (r : List UInt8) (i : Nat) (hi : i < l.length) (hl : ∀ n ∈ l, 0 ≤ n ∧ n < 65536) : numL (bs l ++ r) (2 * i) = l.getD i 0 := by
  induction l generalizing i with
  | nil => cases hi
  | cons n l ih =>
    cases i with
    | zero =>
      obtain ⟨h0, h1⟩ := hl n (by simp)
      show ((256 * (UInt8.ofNat (n.toNat / 256)).toNat + (UInt8.ofNat n.toNat).toNat : Nat) : Int) = n
      rw [UInt8.toNat_ofNat', UInt8.toNat_ofNat']
      omega
    | succ i =>
      exact ih i (by simpa using hi) (fun n hn => hl n (List.mem_cons_of_mem _ hn))
theorem b2_num (a c : UInt8) : b2 ((256 * a.toNat + c.toNat : Nat) : Int) = [a, c] := by
  have ha : a.toNat < 256 := a.toNat_lt
  have hc : c.toNat < 256 := c.toNat_lt
  unfold b2
  rw [Int.toNat_natCast]
  congr 1
  · apply UInt8.toNat_inj.1
    rw [UInt8.toNat_ofNat']
    omega
  · congr 1
    apply UInt8.toNat_inj.1
    rw [UInt8.toNat_ofNat']
    omega
theorem split2 (t : List UInt8) (k : Nat) (h : 2 * k ≤ t.length) : t.take (2 * k) = bs ((List.range k).map fun i => numL t (2 * i)) := by
  induction k generalizing t with
  | zero => rfl
  | succ k ih =>
    match t, h with
    | [], h => simp at h
    | [a], h => simp at h; omega
    | a :: c :: t, h =>
      have e := ih t (by simp at h; omega)
      rw [List.range_succ_eq_map, List.map_cons, List.map_map]
      show a :: c :: t.take (2 * k) = b2 ((256 * a.toNat + c.toNat : Nat) : Int) ++ bs ((List.range k).map fun i => numL t (2 * i))
      rw [b2_num, e]
      rfl
theorem row_num (b : ByteArray) (e p n : Nat) (h : p + 2 * n ≤ e) : row b e p n = (List.range n).map fun i => num b (p + 2 * i) := by
  unfold row
  refine List.map_congr_left fun i hi => ?_
  have hi : i < n := by simpa using hi
  exact if_pos (by omega)
/-- What a valid datagram holds. -/
structure Fits (g : Gr) : Prop where
  f0 : 1 ≤ g.fr.length
  f1 : g.fr.length ≤ 10
  f2 : ∀ n ∈ g.fr, 0 ≤ n ∧ n ≤ 999
  t0 : 1 ≤ g.to.length
  t1 : g.to.length ≤ 10
  t2 : ∀ n ∈ g.to, 0 ≤ n ∧ n ≤ 999
  n : 0 ≤ g.number ∧ g.number ≤ 65535
  l : 0 ≤ g.life ∧ g.life ≤ 60
  a : 0 ≤ g.at' ∧ g.at' ≤ 4000
  t : 0 ≤ g.total ∧ g.total ≤ 4000
  r : 0 ≤ g.report ∧ g.report ≤ 4
  d : g.data.size ≤ 4000
theorem isAddr_fits {l : List Int} (h : isAddr l = true) : 1 ≤ l.length ∧ l.length ≤ 10 ∧ ∀ n ∈ l, 0 ≤ n ∧ n ≤ 999 := by
  unfold isAddr isPre at h
  rcases hx : decide ((l.length : Int) > 0) with _ | _
  · rw [hx] at h; cases h
  rw [hx, cond_true] at h
  rcases hy : decide ((l.length : Int) ≤ 10) with _ | _
  · rw [hy] at h; cases h
  rw [hy, cond_true, Bool.not_eq_true', List.any_eq_false] at h
  have hx := of_decide_eq_true hx
  have hy := of_decide_eq_true hy
  refine ⟨by omega, by omega, fun n hn => ?_⟩
  have hb := h n hn
  unfold bad at hb
  rcases hz : decide (n < 0) with _ | _
  · rw [hz, cond_false] at hb
    have := of_decide_eq_false hz
    have hb := of_decide_eq_false (Bool.eq_false_iff.2 hb)
    omega
  · rw [hz] at hb; exact absurd rfl hb
theorem inR_fits {n lo hi : Int} (h : inR n lo hi = true) : lo ≤ n ∧ n ≤ hi := by
  unfold inR at h
  rcases hx : decide (lo ≤ n) with _ | _
  · rw [hx] at h; cases h
  · rw [hx, cond_true] at h
    exact ⟨of_decide_eq_true hx, of_decide_eq_true h⟩
theorem fits {g : Gr} (h : okG g = true) : Fits g := by
  have hd := okG_size h
  simp only [okG, Bool.and_eq_true] at h
  obtain ⟨⟨⟨⟨⟨⟨⟨⟨⟨h1, h2⟩, h3⟩, h4⟩, h5⟩, h6⟩, h7⟩, h8⟩, h9⟩, h10⟩ := h
  obtain ⟨a1, a2, a3⟩ := isAddr_fits h1
  obtain ⟨b1, b2, b3⟩ := isAddr_fits h2
  have q8 := inR_fits h8
  have q7 := inR_fits h7
  exact ⟨a1, a2, a3, b1, b2, b3, inR_fits h3, inR_fits h4, ⟨q8.1, by omega⟩, q7, inR_fits h5, hd⟩
theorem flags_fits (g : Gr) : 0 ≤ flagsI g ∧ flagsI g ≤ 7 := by
  unfold flagsI
  cases g.more <;> cases g.may <;> cases g.wants <;> decide
theorem nl_len (g : Gr) : (nl g).length = 8 + g.fr.length + g.to.length := by
  simp only [nl, head7, List.length_append, List.length_cons, List.length_nil]
  omega
theorem nl_fits {g : Gr} (h : Fits g) : ∀ n ∈ nl g, 0 ≤ n ∧ n < 65536 := by
  intro n hn
  have := flags_fits g
  obtain ⟨f0, f1, f2, t0, t1, t2, n', l, a, t, r, d⟩ := h
  simp only [nl, head7, List.mem_append, List.mem_cons, List.not_mem_nil, or_false] at hn
  rcases hn with ((h | h | h | h | h | h | h) | h | h | h)
  any_goals (subst h; omega)
  · have := f2 n h; omega
  · have := t2 n h; omega
theorem body_size (g : Gr) : (body g).size = 17 + 2 * g.fr.length + 2 * g.to.length + g.data.size := by
  have := nl_len g
  have := bs_len (nl g)
  show ((71 : UInt8) :: (bs (nl g) ++ g.data.data.toList)).length = _
  rw [List.length_cons, List.length_append, Array.length_toList]
  show (bs (nl g)).length + g.data.size + 1 = _
  omega
theorem wrt_size (g : Gr) : (wrt g).size = 19 + 2 * g.fr.length + 2 * g.to.length + g.data.size := by
  have := body_size g
  rw [wrt, ByteArray.size_append, this]
  show _ + 2 = _
  omega
theorem ext_left (x y : ByteArray) : (x ++ y).extract 0 x.size = x := by
  apply ByteArray.ext
  rw [ByteArray.data_extract, ByteArray.data_append]
  exact Array.extract_append_left.trans Array.extract_size
theorem wrt_ext (g : Gr) : (wrt g).extract 0 ((wrt g).size - 2) = body g := by
  have h : (wrt g).size - 2 = (body g).size := by rw [wrt_size, body_size]; omega
  rw [h]
  exact ext_left _ _
theorem wrt_sum (g : Gr) : (wrt g).extract ((wrt g).size - 2) (wrt g).size = sumS (body g) := by
  have h : (wrt g).size - 2 = (body g).size := by rw [wrt_size, body_size]; omega
  have h2 : (wrt g).size = (body g).size + 2 := by rw [wrt_size, body_size]; omega
  rw [h, h2]
  apply ByteArray.ext
  rw [ByteArray.data_extract, wrt, ByteArray.data_append]
  exact Array.extract_append_right
theorem wrt_ok (g : Gr) : sumOk (wrt g) = true := by
  rw [sumOk, wrt_ext, wrt_sum]
  exact beq_self_eq_true _
/-- What is read of it: a datagram of its own memory. -/
def norm (g : Gr) : Gr := { g with fx := 0, tx := 0 }
theorem wrt_list (g : Gr) : (wrt g).data.toList = 71 :: (bs (nl g) ++ (g.data.data.toList ++ (sumS (body g)).data.toList)) := by
  rw [wrt, ByteArray.data_append, Array.toList_append]
  show (71 :: (bs (nl g) ++ g.data.data.toList)) ++ _ = _
  rw [List.cons_append, List.append_assoc]
theorem wrt_num {g : Gr} (h : Fits g) (p i : Nat) (hp : p = 2 * i + 1) (hi : i < 8 + g.fr.length + g.to.length) : num (wrt g) p = (nl g).getD i 0 := by
  have e : num (wrt g) p = numL (wrt g).data.toList p := rfl
  rw [e, wrt_list, hp]
  exact numL_bs (nl g) _ i (by rw [nl_len]; exact hi) (nl_fits h)
theorem range_get (l : List Int) (n : Nat) (h : n = l.length) : ((List.range n).map fun i => l.getD i 0) = l := by
  subst h
  refine List.ext_getElem (by simp) fun i h1 h2 => ?_
  simp [List.getElem?_eq_getElem h2]
theorem nl_fr (g : Gr) (i : Nat) (hi : i < g.fr.length) : (nl g).getD (7 + i) 0 = g.fr.getD i 0 := by
  rw [nl, List.getD_eq_getElem?_getD, List.getElem?_append_right (show 7 ≤ 7 + i by omega), show 7 + i - (head7 g).length = i from (by show 7 + i - 7 = i; omega), List.getElem?_append_left hi, ← List.getD_eq_getElem?_getD]
theorem nl_n2 (g : Gr) : (nl g).getD (7 + g.fr.length) 0 = g.to.length := by
  rw [nl, List.getD_eq_getElem?_getD, List.getElem?_append_right (show 7 ≤ 7 + g.fr.length by omega), show 7 + g.fr.length - (head7 g).length = g.fr.length from (by show 7 + g.fr.length - 7 = g.fr.length; omega), List.getElem?_append_right (Nat.le_refl _), Nat.sub_self]
  rfl
theorem nl_to (g : Gr) (i : Nat) : (nl g).getD (8 + g.fr.length + i) 0 = g.to.getD i 0 := by
  rw [nl, List.getD_eq_getElem?_getD, List.getElem?_append_right (show 7 ≤ 8 + g.fr.length + i by omega), show 8 + g.fr.length + i - (head7 g).length = g.fr.length + (i + 1) from (by show 8 + g.fr.length + i - 7 = g.fr.length + (i + 1); omega), List.getElem?_append_right (by omega), Nat.add_sub_cancel_left, List.getElem?_cons_succ, ← List.getD_eq_getElem?_getD]
theorem flag_of (g : Gr) : flag (flagsI g) 1 = g.more ∧ flag (flagsI g) 2 = g.may ∧ flag (flagsI g) 4 = g.wants := by
  unfold flagsI
  cases g.more <;> cases g.may <;> cases g.wants <;> decide
theorem parse_wrt {g : Gr} (h : okG g = true) : parse (wrt g) = some (norm g) := by
  have F := fits h
  have ⟨f0, f1, f2, t0, t1, t2, n', l, a, t, r, d⟩ := F
  have hz := wrt_size g
  have e13 : num (wrt g) 13 = g.fr.length := wrt_num F 13 6 rfl (by omega)
  have e15 : num (wrt g) (15 + 2 * g.fr.length) = g.to.length := by
    rw [wrt_num F _ (7 + g.fr.length) (by omega) (by omega), nl_n2]
  have a1 : adrO (wrt g) ((wrt g).size - 2) 13 = some g.fr.length := by
    unfold adrO
    rw [e13, Int.toNat_natCast, if_pos (by omega)]
  have a2 : adrO (wrt g) ((wrt g).size - 2) (15 + 2 * g.fr.length) = some g.to.length := by
    unfold adrO
    rw [e15, Int.toNat_natCast, if_pos (by omega)]
  have r1 : row (wrt g) ((wrt g).size - 2) 15 g.fr.length = g.fr := by
    rw [row_num _ _ _ _ (by omega)]
    refine Eq.trans (List.map_congr_left fun i hi => ?_) (range_get g.fr _ rfl)
    have hi : i < g.fr.length := by simpa using hi
    rw [wrt_num F _ (7 + i) (by omega) (by omega), nl_fr g i hi]
  have r2 : row (wrt g) ((wrt g).size - 2) (17 + 2 * g.fr.length) g.to.length = g.to := by
    rw [row_num _ _ _ _ (by omega)]
    refine Eq.trans (List.map_congr_left fun i hi => ?_) (range_get g.to _ rfl)
    have hi : i < g.to.length := by simpa using hi
    rw [wrt_num F _ (8 + g.fr.length + i) (by omega) (by omega), nl_to g i]
  have dt : (wrt g).extract (17 + 2 * g.fr.length + 2 * g.to.length) ((wrt g).size - 2) = g.data := by
    apply ByteArray.ext
    apply Array.toList_inj.1
    rw [ByteArray.data_extract, Array.toList_extract, List.extract_eq_take_drop, wrt_list]
    have e1 : 17 + 2 * g.fr.length + 2 * g.to.length = (bs (nl g)).length + 1 := by rw [bs_len, nl_len]; omega
    have e2 : (wrt g).size - 2 - (17 + 2 * g.fr.length + 2 * g.to.length) = g.data.data.toList.length := by
      rw [hz, Array.length_toList]
      show _ = g.data.size
      omega
    rw [e2, e1, List.drop_succ_cons, List.drop_left, List.take_left]
  have e0 : byteAt (wrt g) 0 = 71 := by
    unfold byteAt
    rw [wrt_list]
    rfl
  obtain ⟨q1, q2, q3⟩ := flag_of g
  have hg : gAt (wrt g) g.fr.length g.to.length = norm g := by
    unfold gAt gR
    rw [r1, r2, dt, wrt_num F 1 0 rfl (by omega), wrt_num F 3 1 rfl (by omega), wrt_num F 5 2 rfl (by omega), wrt_num F 7 3 rfl (by omega), wrt_num F 9 4 rfl (by omega), wrt_num F 11 5 rfl (by omega)]
    show Gr.mk _ _ _ _ _ _ _ _ _ (flag (flagsI g) 1) (flag (flagsI g) 2) (flag (flagsI g) 4) _ = norm g
    rw [q1, q2, q3, xn, if_neg (by omega), xn, if_neg (by omega)]
    rfl
  have ha : acc (wrt g) false (norm g) = true := by
    have h1 : okG (norm g) = true := h
    have h2 : decide (num (wrt g) 11 ≤ 7) = true := by
      rw [wrt_num F 11 5 rfl (by omega)]
      exact decide_eq_true (flags_fits g).2
    unfold acc
    rw [h1, h2, e0]
    rfl
  unfold parse
  rw [a1]
  dsimp only
  rw [a2]
  dsimp only
  rw [hg, if_pos ha]
theorem flags_num {g : Gr} {f : Int} (h0 : 0 ≤ f) (h7 : f ≤ 7) (h1 : g.more = flag f 1) (h2 : g.may = flag f 2) (h3 : g.wants = flag f 4) : flagsI g = f := by
  unfold flagsI
  rw [h1, h2, h3]
  obtain ⟨n, rfl⟩ : ∃ n : Nat, f = n := ⟨f.toNat, by omega⟩
  have : n < 8 := by omega
  match n, this with
  | 0, _ | 1, _ | 2, _ | 3, _ | 4, _ | 5, _ | 6, _ | 7, _ => rfl
theorem wrt_parse {b : ByteArray} {g : Gr} (h : 23 ≤ b.size) (hs : sumOk b = true) (hp : parse b = some g) : wrt g = b ∧ okG g = true := by
  unfold parse at hp
  split at hp
  · cases hp
  rename_i n1 h1
  split at hp
  · cases hp
  rename_i n2 h2
  split at hp
  case isFalse => cases hp
  rename_i ha
  obtain rfl := Option.some.inj hp
  unfold adrO at h1 h2
  split at h1
  case isFalse => cases h1
  split at h2
  case isFalse => cases h2
  rename_i q1 q2
  have h1 := Option.some.inj h1
  have h2 := Option.some.inj h2
  unfold acc at ha
  simp only [Bool.and_eq_true, beq_iff_eq, decide_eq_true_eq] at ha
  obtain ⟨⟨⟨a0, _⟩, a7⟩, aok⟩ := ha
  have n13 := num_lt b 13
  have n11 := num_lt b 11
  have nn := num_lt b (15 + 2 * n1)
  refine ⟨?_, aok⟩
  have er1 := row_num b (b.size - 2) 15 n1 (by omega)
  have er2 := row_num b (b.size - 2) (17 + 2 * n1) n2 (by omega)
  have fl : flagsI (gAt b n1 n2) = num b 11 := flags_num (by omega) a7 rfl rfl rfl
  have hn : nl (gAt b n1 n2) = (List.range (7 + (n1 + (1 + n2)))).map fun i => num b (1 + 2 * i) := by
    rw [List.range_add, List.range_add, List.range_add]
    simp only [List.map_append, List.map_map]
    unfold nl head7
    rw [fl]
    have z1 : ((gAt b n1 n2).fr.length : Int) = num b 13 := by
      show ((row b (b.size - 2) 15 n1).length : Int) = _
      rw [row_len]
      omega
    have z2 : ((gAt b n1 n2).to.length : Int) = num b (15 + 2 * n1) := by
      show ((row b (b.size - 2) (17 + 2 * n1) n2).length : Int) = _
      rw [row_len]
      omega
    rw [z1, z2]
    show _ ++ (row b (b.size - 2) 15 n1 ++ (_ :: row b (b.size - 2) (17 + 2 * n1) n2)) = _
    rw [er1, er2]
    congr 1
    congr 1
    · refine List.map_congr_left fun i _ => ?_
      show _ = num b (1 + 2 * (7 + i))
      congr 1
      omega
    · show _ = num b (1 + 2 * (7 + (n1 + 0))) :: _
      congr 1
      · congr 1
        omega
      · refine List.map_congr_left fun i _ => ?_
        show _ = num b (1 + 2 * (7 + (n1 + (1 + i))))
        congr 1
        omega
  have hb : body (gAt b n1 n2) = b.extract 0 (b.size - 2) := by
    apply ByteArray.ext
    apply Array.toList_inj.1
    rw [ByteArray.data_extract, Array.toList_extract, List.extract_eq_take_drop]
    show 71 :: (bs (nl (gAt b n1 n2)) ++ (b.extract (17 + 2 * n1 + 2 * n2) (b.size - 2)).data.toList) = _
    rw [hn, ByteArray.data_extract, Array.toList_extract, List.extract_eq_take_drop]
    cases ht : b.data.toList with
    | nil =>
      have : b.data.toList.length = b.size := Array.length_toList
      rw [ht] at this
      simp at this
      omega
    | cons x t =>
      have hl : t.length + 1 = b.size := by
        have : b.data.toList.length = b.size := Array.length_toList
        rw [ht] at this
        simpa using this
      have hx : x = 71 := by
        have : byteAt b 0 = x := by unfold byteAt; rw [ht]; rfl
        rw [this] at a0
        exact UInt8.toNat_inj.1 a0
      have hnum : ((List.range (7 + (n1 + (1 + n2)))).map fun i => num b (1 + 2 * i)) = (List.range (7 + (n1 + (1 + n2)))).map fun i => numL t (2 * i) := by
        refine List.map_congr_left fun i _ => ?_
        show numL b.data.toList (1 + 2 * i) = _
        rw [ht, Nat.add_comm]
        rfl
      rw [hnum, ← split2 t _ (by omega), hx]
      have e1 : b.size - 2 - 0 = (2 * (7 + (n1 + (1 + n2))) + (b.size - 2 - (17 + 2 * n1 + 2 * n2))) + 1 := by omega
      have e2 : 17 + 2 * n1 + 2 * n2 = 2 * (7 + (n1 + (1 + n2))) + 1 := by omega
      rw [e1, List.drop_zero, List.take_succ_cons, List.take_add, e2, List.drop_succ_cons]
  have hs' : sumS (b.extract 0 (b.size - 2)) = b.extract (b.size - 2) b.size := by
    apply ByteArray.ext
    apply Array.toList_inj.1
    unfold sumOk at hs
    have := eq_of_beq hs
    rw [ByteArray.toList_eq, ByteArray.toList_eq] at this
    exact this
  rw [wrt, hb, hs']
  apply ByteArray.ext
  rw [ByteArray.data_append, ByteArray.data_extract, ByteArray.data_extract, Array.extract_append_extract]
  have e3 : min 0 (b.size - 2) = 0 := by omega
  have e4 : max (b.size - 2) b.size = b.size := by omega
  rw [e3, e4]
  exact Array.extract_size
end Go.Proofs.Ytpkkcpglbjbgfaa.D
