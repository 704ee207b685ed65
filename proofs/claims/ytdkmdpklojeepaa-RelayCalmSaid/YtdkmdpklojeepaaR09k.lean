/- What a calm medium keeps: plainly. -/
import Derived.Test.YtdkmdpklojeepaaR09ef
namespace Go.Proofs.Ytdkmdpklojeepaa.D
open Go.Fw Go.RowKit

/-- The unit of a number. -/
def un1 (i : Nat) : ByteArray := ⟨#[UInt8.ofNat i]⟩
def lab (z : Tr) : Nat := (byteAt z.2 0).toNat
/-- How often a number waits. -/
def cnt (v : Nat) (X : List Tr) : Nat := X.countP fun z => decide (lab z = v)
theorem cnt_app (v : Nat) (a b : List Tr) : cnt v (a ++ b) = cnt v a + cnt v b := List.countP_append
theorem lab_un1 {i : Nat} (h : i < 60) (a : Int) : lab (a, un1 i) = i := by
  show (UInt8.ofNat i).toNat = i
  rw [UInt8.toNat_ofNat']
  omega
/-- Nothing is lost or spoilt. -/
def Mildly (L : List Ft) : Prop := ∀ u, (fate L u).lo = false ∧ (fate L u).sp = -1
theorem mildly (l : List Int) : Mildly (ftsOf true l) := by
  intro u
  unfold fate
  rw [List.getD_eq_getElem?_getD]
  by_cases h : u < (ftsOf true l).length
  · rw [List.getElem?_eq_getElem h]
    have hm := List.getElem_mem h
    generalize (ftsOf true l)[u] = f at hm
    obtain ⟨x, _, rfl⟩ := List.mem_map.1 hm
    show (ftOf true x).lo = false ∧ (ftOf true x).sp = -1
    unfold ftOf
    split
    · exact ⟨rfl, rfl⟩
    split
    · exact ⟨rfl, rfl⟩
    split
    · exact ⟨rfl, rfl⟩
    split
    · exact ⟨rfl, rfl⟩
    split
    · exact ⟨rfl, rfl⟩
    split
    · exact ⟨rfl, rfl⟩
    · exact ⟨rfl, rfl⟩
  · rw [List.getElem?_eq_none (by omega)]
    exact ⟨rfl, rfl⟩
/-- What waits when some were handed in. -/
def Xc (k : Int) (L : List Ft) : Nat → List Tr
  | 0 => []
  | i + 1 => nxt k L 0 i (Xc k L i) (un1 i)
/-- All that waits is a number below i, and is due soon. -/
def In (i : Nat) (X : List Tr) : Prop := ∀ z ∈ X, z.2.size = 1 ∧ lab z < i ∧ 1 ≤ z.1 ∧ z.1 ≤ 24
structure Cok (k : Int) (L : List Ft) (i : Nat) : Prop where
  len : (Xc k L i).length ≤ 4 * i
  all : In i (Xc k L i)
theorem Xc_put {k : Int} {L : List Ft} {i : Nat} (hm : Mildly L) (hok : L.all Ft.ok = true) (hi : i < 60) (hl : (Xc k L i).length ≤ 4 * i) : Xc k L (i + 1) = Xc k L i ++ its (atW k (fate L i) 0 (Xc k L i)) k (un1 i) ((fate L i).co.toNat + 1) := by
  obtain ⟨h1, h2⟩ := hm i
  obtain ⟨o1, o2, o3, o4, o5⟩ := fate_ok hok i
  show nxt k L 0 i (Xc k L i) (un1 i) = _
  unfold nxt Yl
  rw [List.take_of_length_le (by rw [its_len]; omega)]
  have hu : unit' (fate L i) (un1 i) = un1 i := if_neg (by omega)
  rw [hu]
theorem cok (k : Int) (L : List Ft) (hk : k = 0 ∨ k = 1) (hm : Mildly L) (hok : L.all Ft.ok = true) : ∀ i, i ≤ 60 → Cok k L i
  | 0, _ => ⟨Nat.le_refl _, fun z hz => by cases hz⟩
  | i + 1, h => by
    obtain ⟨h3, h4⟩ := cok k L hk hm hok i (by omega)
    obtain ⟨o1, o2, o3, o4, o5⟩ := fate_ok hok i
    have hX := Xc_put hm hok (by omega : i < 60) h3
    have ha := foldl_mx (Xc k L i) ((0 : Nat) + 1 + (fate L i).de)
    have hb := foldl_mx_le (m := 24) (Xc k L i) ((0 : Nat) + 1 + (fate L i).de) (by omega) fun z hz => (h4 z hz).2.2.2
    refine ⟨by rw [hX, List.length_append, its_len]; omega, ?_⟩
    rw [hX]
    intro z hz
    rcases List.mem_append.1 hz with hz | hz
    · obtain ⟨a1, a2, a3, a4⟩ := h4 z hz
      exact ⟨a1, by omega, a3, a4⟩
    · unfold its at hz
      obtain ⟨r, hr, rfl⟩ := List.mem_map.1 hz
      have hr := List.mem_range.1 hr
      refine ⟨rfl, by rw [lab_un1 (by omega)]; omega, ?_⟩
      rcases hk with rfl | rfl
      · have hat : atW 0 (fate L i) 0 (Xc 0 L i) = (Xc 0 L i).foldl mx ((0 : Nat) + 1 + (fate L i).de) := if_pos rfl
        rw [hat]
        dsimp only
        omega
      · have hat : atW 1 (fate L i) 0 (Xc 1 L i) = (0 : Nat) + 1 + (fate L i).de := if_neg (by decide)
        rw [hat]
        dsimp only
        omega
theorem cnt_its {a k : Int} {i m v : Nat} (hi : i < 60) : cnt v (its a k (un1 i) m) = if v = i then m else 0 := by
  unfold cnt its
  rw [List.countP_map]
  by_cases h : v = i
  · subst h
    rw [if_pos rfl, List.countP_eq_length.2 (fun r _ => by
      show decide (lab (_, un1 v) = v) = true
      rw [lab_un1 hi]
      exact decide_eq_true rfl), List.length_range]
  · rw [if_neg h, List.countP_eq_zero.2 (fun r _ => by
      show ¬ decide (lab (_, un1 i) = v) = true
      rw [lab_un1 hi]
      simpa using fun e => h e.symm)]
theorem cnt_none {i : Nat} {X : List Tr} (h : In i X) {v : Nat} (hv : i ≤ v) : cnt v X = 0 := by
  unfold cnt
  refine List.countP_eq_zero.2 fun z hz => ?_
  have := (h z hz).2.1
  simp only [decide_eq_true_eq]
  omega
/-- The row of what is still to come. -/
def lefts (n : Nat) (X : List Tr) : List Value := (List.range n).map fun v => Value.int .i64 (cnt v X : Nat)
theorem lefts_len (n : Nat) (X : List Tr) : (lefts n X).length = n := by simp [lefts]
theorem lefts_flat (n : Nat) (X : List Tr) : (lefts n X).all flat = true := by
  rw [List.all_eq_true]
  intro v hv
  obtain ⟨k, _, rfl⟩ := List.mem_map.1 hv
  rfl
theorem lefts_at {n : Nat} {X : List Tr} {v : Nat} (h : v < n) : (lefts n X)[v]? = some (.int .i64 (cnt v X : Nat)) := by
  unfold lefts
  rw [List.getElem?_map, List.getElem?_range h]
  rfl
theorem lefts_nil (n : Nat) : lefts n [] = List.replicate n (.int .i64 0) := by
  rw [List.eq_replicate_iff]
  refine ⟨lefts_len _ _, fun v hv => ?_⟩
  obtain ⟨k, _, rfl⟩ := List.mem_map.1 hv
  rfl
/-- One place of the row told anew. -/
theorem lefts_set {n : Nat} {X Y : List Tr} {i : Nat} (h : ∀ v, v ≠ i → cnt v Y = cnt v X) : (lefts n X).set i (.int .i64 (cnt i Y : Nat)) = lefts n Y := by
  refine List.ext_getElem? fun v => ?_
  by_cases hv : v < n
  · rw [lefts_at hv, List.getElem?_set]
    by_cases hi : i = v
    · subst hi
      rw [if_pos rfl, if_pos (by rw [lefts_len]; exact hv)]
    · rw [if_neg hi, lefts_at hv, h v (fun e => hi e.symm)]
  · rw [List.getElem?_eq_none (by rw [List.length_set, lefts_len]; omega), List.getElem?_eq_none (by rw [lefts_len]; omega)]
theorem cnt_put {k : Int} {L : List Ft} {i : Nat} (hm : Mildly L) (hok : L.all Ft.ok = true) (hi : i < 60) (hc : Cok k L i) : cnt i (Xc k L (i + 1)) = (fate L i).co.toNat + 1 ∧ ∀ v, v ≠ i → cnt v (Xc k L (i + 1)) = cnt v (Xc k L i) := by
  rw [Xc_put hm hok hi hc.len]
  refine ⟨?_, fun v hv => ?_⟩
  · rw [cnt_app, cnt_none hc.all (Nat.le_refl _), cnt_its hi, if_pos rfl, Nat.zero_add]
  · rw [cnt_app, cnt_its hi, if_neg hv, Nat.add_zero]
theorem Xc_nil {k : Int} {L : List Ft} {i : Nat} (hm : Mildly L) (hok : L.all Ft.ok = true) (hi : i < 60) (hc : Cok k L i) : Xc k L (i + 1) ≠ [] := by
  intro h
  have h1 := (cnt_put hm hok hi hc).1
  rw [h] at h1
  have : cnt i [] = 0 := rfl
  omega
theorem ins_perm (x : Tr) : ∀ l, (ins x l).Perm (x :: l)
  | [] => .refl _
  | y :: r => by
    unfold ins
    split
    · exact .refl _
    · exact ((ins_perm x r).cons y).trans (List.Perm.swap x y r)
theorem ssort_perm : ∀ l : List Tr, (ssort l).Perm l
  | [] => .refl _
  | x :: r => (ins_perm x (ssort r)).trans ((ssort_perm r).cons x)
theorem due_rest (t : Int) (S : List Tr) : due t S ++ rest t S = S := List.takeWhile_append_dropWhile
/-- A tick parts what waits. -/
theorem tick_parts {n : Nat} {X A B : List Tr} {t : Int} (hA : due t (ssort X) = A) (hB : rest t (ssort X) = B) (h : In n X) : (∀ v, cnt v (A ++ B) = cnt v X) ∧ In n A ∧ In n B ∧ A.length + B.length = X.length := by
  have hS : A ++ B = ssort X := by rw [← hA, ← hB]; exact due_rest t _
  have hp : (A ++ B).Perm X := by rw [hS]; exact ssort_perm X
  refine ⟨fun v => hp.countP_eq _, fun z hz => h z (hp.subset (List.mem_append_left _ hz)), fun z hz => h z (hp.subset (List.mem_append_right _ hz)), ?_⟩
  have := hp.length_eq
  rw [List.length_append] at this
  exact this
theorem lefts_eq {n : Nat} {X Y : List Tr} (h : ∀ v, cnt v Y = cnt v X) : lefts n X = lefts n Y := by
  unfold lefts
  exact List.map_congr_left fun v _ => by rw [h v]
end Go.Proofs.Ytdkmdpklojeepaa.D
