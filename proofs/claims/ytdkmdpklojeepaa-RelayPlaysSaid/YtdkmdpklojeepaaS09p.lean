/- Sorted, and as it was among equals: there is one such list, and no other. -/
import Derived.Test.YtdkmdpklojeepaaS09a
namespace Go.Proofs.Ytdkmdpklojeepaa.D
open Go.Fw Go.RowKit

def Srt (l : List Tr) : Prop := l.Pairwise fun x y => x.1 ≤ y.1
def fil (k : Int) (l : List Tr) : List Tr := l.filter fun t => t.1 == k
structure Flt (l m : List Tr) : Prop where
  len : m.length = l.length
  fil : ∀ k, fil k m = fil k l
theorem Flt.refl (l : List Tr) : Flt l l := ⟨rfl, fun _ => rfl⟩
theorem Flt.trans {a b c : List Tr} (h : Flt a b) (h2 : Flt b c) : Flt a c := ⟨h2.len.trans h.len, fun k => (h2.fil k).trans (h.fil k)⟩
theorem Flt.symm {a b : List Tr} (h : Flt a b) : Flt b a := ⟨h.len.symm, fun k => (h.fil k).symm⟩
theorem fil_app (k : Int) (a b : List Tr) : fil k (a ++ b) = fil k a ++ fil k b := List.filter_append ..
theorem fil_yes {k : Int} {x : Tr} (h : x.1 = k) (l : List Tr) : fil k (x :: l) = x :: fil k l := by
  unfold fil
  rw [List.filter_cons_of_pos (by simpa using h)]
theorem fil_no {k : Int} {x : Tr} (h : x.1 ≠ k) (l : List Tr) : fil k (x :: l) = fil k l := by
  unfold fil
  rw [List.filter_cons_of_neg (by simpa using h)]
theorem Flt.app {a b c d : List Tr} (h : Flt a b) (h2 : Flt c d) : Flt (a ++ c) (b ++ d) := ⟨by rw [List.length_append, List.length_append, h.len, h2.len], fun k => by rw [fil_app, fil_app, h.fil, h2.fil]⟩
theorem mem_fil {x : Tr} {l : List Tr} : x ∈ l ↔ x ∈ fil x.1 l := by
  unfold fil
  rw [List.mem_filter]
  simp
theorem Flt.mem {a b : List Tr} (h : Flt a b) {x : Tr} (hx : x ∈ b) : x ∈ a := by
  rw [mem_fil] at hx ⊢
  rwa [h.fil] at hx
/-- Those of other keys may pass. -/
theorem fil_pass {x : Tr} : ∀ {l : List Tr}, (∀ y ∈ l, y.1 ≠ x.1) → ∀ k, fil k (x :: l) = fil k (l ++ [x])
  | [], _, _ => rfl
  | y :: r, h, k => by
    have ih := fil_pass (l := r) (fun z hz => h z (List.mem_cons_of_mem _ hz)) k
    have hy := h y (by simp)
    rw [List.cons_append]
    by_cases e : y.1 = k
    · rw [fil_yes e, ← ih, fil_no (show x.1 ≠ k by omega), fil_yes e, fil_no (show x.1 ≠ k by omega)]
    · rw [fil_no e (r ++ [x]), ← ih]
      by_cases e2 : x.1 = k
      · rw [fil_yes e2, fil_yes e2, fil_no e]
      · rw [fil_no e2, fil_no e2, fil_no e]
theorem flt_pass {x : Tr} {l : List Tr} (h : ∀ y ∈ l, y.1 ≠ x.1) : Flt (l ++ [x]) (x :: l) := ⟨by simp, fun k => fil_pass h k⟩
theorem fil_none {k : Int} {l : List Tr} (h : ∀ y ∈ l, y.1 ≠ k) : fil k l = [] := by
  unfold fil
  rw [List.filter_eq_nil_iff]
  intro y hy
  simpa using h y hy
/-- Two stretches without a key in common may change places. -/
theorem flt_swap {a b : List Tr} (h : ∀ x ∈ a, ∀ y ∈ b, x.1 ≠ y.1) : Flt (a ++ b) (b ++ a) := by
  refine ⟨by simp; omega, fun k => ?_⟩
  rw [fil_app, fil_app]
  by_cases e : ∃ x ∈ a, x.1 = k
  · obtain ⟨x, hx, rfl⟩ := e
    rw [fil_none (l := b) fun y hy hk => h x hx y hy hk.symm]
    simp
  · rw [fil_none (l := a) fun y hy hk => e ⟨y, hy, hk⟩]
    simp
theorem srt_unique : ∀ {a b : List Tr}, Srt a → Srt b → Flt a b → a = b
  | [], b, _, _, h => (List.eq_nil_of_length_eq_zero h.len).symm
  | x :: r, [], _, _, h => by have := h.len; simp at this
  | x :: r, y :: s, ha, hb, h => by
    obtain ⟨a1, a2⟩ := List.pairwise_cons.1 ha
    obtain ⟨b1, b2⟩ := List.pairwise_cons.1 hb
    have e1 : y.1 ≤ x.1 := by
      have := h.symm.mem (x := x) (by simp)
      rcases List.mem_cons.1 this with rfl | hm
      · exact Int.le_refl _
      · exact b1 x hm
    have e2 : x.1 ≤ y.1 := by
      have := h.mem (x := y) (by simp)
      rcases List.mem_cons.1 this with rfl | hm
      · exact Int.le_refl _
      · exact a1 y hm
    have hk : y.1 = x.1 := by omega
    have h1 := h.fil x.1
    rw [fil_yes hk, fil_yes rfl] at h1
    obtain ⟨rfl, h2⟩ := List.cons.inj h1
    have := srt_unique (a := r) (b := s) a2 b2 ⟨by have := h.len; simpa using this, fun k => by
      have h3 := h.fil k
      by_cases e : y.1 = k
      · rw [fil_yes e, fil_yes e] at h3
        exact (List.cons.inj h3).2
      · rwa [fil_no e, fil_no e] at h3⟩
    rw [this]
def ins (x : Tr) : List Tr → List Tr
  | [] => [x]
  | y :: r => if x.1 ≤ y.1 then x :: y :: r else y :: ins x r
def ssort : List Tr → List Tr
  | [] => []
  | x :: r => ins x (ssort r)
theorem ins_flt (x : Tr) : ∀ l, Flt (x :: l) (ins x l)
  | [] => Flt.refl _
  | y :: r => by
    unfold ins
    split
    · exact Flt.refl _
    · rename_i h
      have ih := ins_flt x r
      refine ⟨by rw [List.length_cons, ih.len]; rfl, fun k => ?_⟩
      by_cases e : y.1 = k
      · rw [fil_yes e, ih.fil, fil_no (show x.1 ≠ k by omega), fil_no (show x.1 ≠ k by omega), fil_yes e]
      · rw [fil_no e, ih.fil]
        by_cases e2 : x.1 = k
        · rw [fil_yes e2, fil_yes e2, fil_no e]
        · rw [fil_no e2, fil_no e2, fil_no e]
theorem ins_srt (x : Tr) : ∀ l, Srt l → Srt (ins x l)
  | [], _ => List.pairwise_singleton _ _
  | y :: r, h => by
    obtain ⟨h1, h2⟩ := List.pairwise_cons.1 h
    unfold ins
    split
    · rename_i hx
      refine List.pairwise_cons.2 ⟨fun z hz => ?_, h⟩
      rcases List.mem_cons.1 hz with rfl | hz
      · exact hx
      · have := h1 z hz
        omega
    · rename_i hx
      refine List.pairwise_cons.2 ⟨fun z hz => ?_, ins_srt x r h2⟩
      have := (ins_flt x r).mem hz
      rcases List.mem_cons.1 this with rfl | hz
      · omega
      · exact h1 z hz
theorem ssort_srt : ∀ l, Srt (ssort l)
  | [] => List.Pairwise.nil
  | x :: r => ins_srt x _ (ssort_srt r)
theorem ssort_flt : ∀ l, Flt l (ssort l)
  | [] => Flt.refl _
  | x :: r => ((Flt.refl [x]).app (ssort_flt r)).trans (ins_flt x _)
theorem ssort_is {a b : List Tr} (h : Srt b) (h2 : Flt a b) : b = ssort a := srt_unique h (ssort_srt a) (h2.symm.trans (ssort_flt a))
theorem srt_app {a b : List Tr} : Srt (a ++ b) ↔ Srt a ∧ Srt b ∧ ∀ x ∈ a, ∀ y ∈ b, x.1 ≤ y.1 := List.pairwise_append
/-- What a trip may be. -/
def InT (l : List Tr) : Prop := ∀ x ∈ l, 0 ≤ x.1 ∧ x.1 ≤ 1000000000
end Go.Proofs.Ytdkmdpklojeepaa.D
