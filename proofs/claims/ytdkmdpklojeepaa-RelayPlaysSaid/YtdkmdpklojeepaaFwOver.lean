/- Many blocks in their own places, some others found elsewhere. -/
import Derived.Test.YtdkmdpklojeepaaFwMat
namespace Go.Fw
open Go.RowKit

theorem getD_lo {m b : Nat} (ks : List Nat) (h : b < m) : (List.range m ++ ks).getD b 0 = b := by
  rw [List.getD_eq_getElem?_getD, List.getElem?_append_left (by simpa using h)]
  simp [h]
theorem getD_hi {m : Nat} (ks : List Nat) (j : Nat) : (List.range m ++ ks).getD (m + j) 0 = ks.getD j 0 := by
  rw [List.getD_eq_getElem?_getD, List.getElem?_append_right (by simp), List.getD_eq_getElem?_getD]
  simp
theorem unC_lo {m : Nat} (ks : List Nat) {v : Value} (h : okC m v = true) : unC (List.range m ++ ks) v = v := by
  cases v with
  | pointer a => cases a with
    | none => rfl
    | some a =>
      obtain ⟨b, o, sp⟩ := a
      cases sp with
      | none =>
        simp only [okC, decide_eq_true_eq] at h
        show Value.pointer (some ⟨(List.range m ++ ks).getD b 0, o, none⟩) = _
        rw [getD_lo ks h]
      | some _ => rfl
  | slice a n c => cases a with
    | none => rfl
    | some a =>
      obtain ⟨b, o, sp⟩ := a
      cases sp with
      | none =>
        simp only [okC, decide_eq_true_eq] at h
        show Value.slice (some ⟨(List.range m ++ ks).getD b 0, o, none⟩) n c = _
        rw [getD_lo ks h]
      | some _ => rfl
  | _ => rfl
theorem map_unC_lo {m : Nat} (ks : List Nat) : ∀ {l : List Value}, l.all (okC m) = true → l.map (unC (List.range m ++ ks)) = l
  | [], _ => rfl
  | v :: l, h => by
    simp only [List.all_cons, Bool.and_eq_true] at h
    rw [List.map_cons, unC_lo ks h.1, map_unC_lo ks h.2]
theorem okCs_mono {m m' : Nat} (hm : m ≤ m') {l : List Value} (h : l.all (okC m) = true) : l.all (okC m') = true :=
  List.all_eq_true.2 fun v hv => okC_mono hm (List.all_eq_true.1 h v hv)
theorem told_sl {E : Env} {hR : Heap} {rl : List Nat} {m b k n c : Nat} {o : Value} (ho : o = .slice (some ⟨k, 0, none⟩) n c) (hk : rl.getD b 0 = k) (hb : b < m) : ToldV E hR rl m o (.slice (some ⟨b, 0, none⟩) n c) := by
  refine .w (.un ?_ (okV_sl hb))
  subst hk
  exact ho
theorem told_fl {E : Env} {hR : Heap} {rl : List Nat} {m : Nat} {o v : Value} (ho : o = v) (hf : flat v = true) : ToldV E hR rl m o v := by
  obtain ⟨h1, h2⟩ := CellsOk.flat (rl := rl) (m := m) (l := [v]) (fun w hw => by rw [List.mem_singleton.1 hw]; exact hf)
  simp only [List.map_cons, List.map_nil, List.cons.injEq, and_true] at h1
  simp only [List.all_cons, List.all_nil, Bool.and_true] at h2
  subst ho
  cases o with
  | agg => cases hf
  | tuple => cases hf
  | func => cases hf
  | float => cases hf
  | complex => cases hf
  | chan => cases hf
  | _ => exact .w (.un h1 h2)
/-- A: blocks in their own places; B: blocks found at ks. -/
theorem View.overI {L : Nat} {E : Env} {n : Nat} {s : Slots} {h : Heap} (A B : List Blk) (ks : List Nat) (l : List (Nat × Value)) (hL : L ≤ A.length) (hlen : ks.length = B.length) (hnd : ks.Nodup) (hks : ∀ k ∈ ks, A.length ≤ k)
    (hA : ∀ (b : Nat) (x : Blk), A[b]? = some x → h.get b = some x ∧ x.cells.all (okC A.length) = true) (hB : ∀ (j k : Nat) (x : Blk), B[j]? = some x → ks[j]? = some k → h.get k = some x ∧ x.cells.all flat = true)
    (hs : SlotsI E h (List.range A.length ++ ks) (A ++ B).length s l) : View L E n s h (layj l) (heapOf (A ++ B)) := by
  refine View.ofI (List.range A.length ++ ks) (A ++ B) l ?_ ?_ (BlksI.of (by simp [hlen]) fun b x k h1 h2 => ?_) hs
  · rw [List.nodup_append]
    refine ⟨List.nodup_range, hnd, fun a ha b hb e => ?_⟩
    subst e
    have := hks a hb
    rw [List.mem_range] at ha
    omega
  · unfold keepsL
    rw [List.all_eq_true]
    intro b hb
    rw [List.mem_range] at hb
    have hb2 : b < A.length := by omega
    rw [List.getElem?_append_left (by simpa using hb2)]
    simp [hb2]
  · rcases Nat.lt_or_ge b A.length with hlt | hge
    · rw [List.getElem?_append_left hlt] at h1
      rw [List.getElem?_append_left (by simpa using hlt)] at h2
      obtain rfl : b = k := by simpa [hlt] using h2
      obtain ⟨g1, g2⟩ := hA b x h1
      refine ⟨x.cells, g1, ?_⟩
      have := toldC_map (E := E) (h := h.less (List.range A.length ++ ks)) (rl := List.range A.length ++ ks) (okCs_mono (m' := (A ++ B).length) (by simp) g2)
      rwa [map_unC_lo ks g2] at this
    · rw [List.getElem?_append_right hge] at h1
      rw [List.getElem?_append_right (by simpa using hge)] at h2
      simp only [List.length_range] at h2
      obtain ⟨g1, g2⟩ := hB _ k x h1 h2
      exact ⟨x.cells, g1, toldC_flat g2⟩
/-- What was lent is as it was. -/
theorem lentSame {E : Env} {h : Heap} {v v1 : Value} (A : List Blk) (hA : ∀ (b : Nat) (x : Blk), A[b]? = some x → h.get b = some x ∧ x.cells.all (okC A.length) = true) (ht : ToldV E (h.less (List.range A.length)) (List.range A.length) A.length v1 v) : LentEnd E A.length v A v1 h := by
  refine ⟨List.range A.length, List.nodup_range, ?_, BlksI.of (by simp) fun b x k h1 h2 => ?_, ht⟩
  · unfold keepsL
    rw [List.all_eq_true]
    intro b hb
    rw [List.mem_range] at hb
    simp [hb]
  · have hlt : b < A.length := (List.getElem?_eq_some_iff.1 h1).1
    obtain rfl : b = k := by simpa [hlt] using h2
    obtain ⟨g1, g2⟩ := hA b x h1
    refine ⟨x.cells, g1, ?_⟩
    have := toldC_map (E := E) (h := h.less (List.range A.length)) (rl := List.range A.length) g2
    rwa [map_unC_range g2] at this
end Go.Fw
