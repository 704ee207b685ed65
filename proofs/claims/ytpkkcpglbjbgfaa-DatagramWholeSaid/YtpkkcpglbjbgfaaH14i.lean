/- The store's blocks lent by the law; Open. -/
import Derived.Test.YtpkkcpglbjbgfaaFwLem
import Derived.Test.YtpkkcpglbjbgfaaFwCons
import Derived.Test.YtpkkcpglbjbgfaaFwMat
import Derived.Test.YtpkkcpglbjbgfaaFwEnter
import Derived.Test.YtpkkcpglbjbgfaaFwOver
import Derived.Test.YtpkkcpglbjbgfaaH14h
namespace Go.Proofs.Ytpkkcpglbjbgfaa.D
open Go.Fw Go.RowKit


theorem open_ok {G p0 : Gr} {P : List Gr} {c : Nat → Bool} {A : List Blk} (h : Open G p0 P c A) : (∃ a0 a1 a2 a3 a4, A = [a0, a1, a2, a3, a4]) ∧ A.all (fun x => x.cells.all (okC A.length)) = true := by
  obtain ⟨k, _, ⟨_, rfl⟩ | ⟨_, rfl⟩⟩ := h
  · exact ⟨⟨_, _, _, _, _, rfl⟩, all5 (by kernel_rfl) (by kernel_rfl) (by kernel_rfl) (okCs_flat (dC_flat _ _ _)) (okCs_flat (bC_flat _ _))⟩
  · exact ⟨⟨_, _, _, _, _, rfl⟩, all5 (by kernel_rfl) (by kernel_rfl) (by kernel_rfl) (okCs_flat (dC_flat _ _ _)) (okCs_flat (bC_flat _ _))⟩
theorem done_ok {G p0 : Gr} {P : List Gr} {A : List Blk} (h : Done G p0 P A) : (∃ a0 a1 a2 a3 a4, A = [a0, a1, a2, a3, a4]) ∧ A.all (fun x => x.cells.all (okC A.length)) = true := by
  obtain ⟨th, k, rfl⟩ := h
  exact ⟨⟨_, _, _, _, _, rfl⟩, all5 (by kernel_rfl) (by kernel_rfl) (by kernel_rfl) (okCs_flat (dC_flat _ _ _)) (okCs_flat (bC_flat _ _))⟩
/-- Where the law has the store. -/
def u5 : Blk → Blk := unB [3, 4, 5, 6, 7]
theorem lend5 {f : FuncId} {args0 args : List Value} {v : Value} {c0 c1 c2 a0 a1 a2 a3 a4 b0 b1 b2 b3 b4 : Blk} (c : Lent E f args0 [a0, a1, a2, a3, a4] v [b0, b1, b2, b3, b4]) (hA : [a0, a1, a2, a3, a4].all (fun x => x.cells.all (okC 5)) = true) (ha : args = args0.map (unV [3, 4, 5, 6, 7])) :
    SCall E f args (heapOf [c0, c1, c2, u5 a0, u5 a1, u5 a2, u5 a3, u5 a4]) (unT [3, 4, 5, 6, 7] v) (heapOf [c0, c1, c2, u5 b0, u5 b1, u5 b2, u5 b3, u5 b4]) := by
  simp only [List.all_cons, List.all_nil, Bool.and_true, Bool.and_eq_true] at hA
  obtain ⟨h0, h1, h2, h3, h4⟩ := hA
  have h := SCall.lend (h := heapOf [c0, c1, c2, u5 a0, u5 a1, u5 a2, u5 a3, u5 a4]) [3, 4, 5, 6, 7] c (by decide) ⟨⟨_, rfl, rfl, h0⟩, ⟨_, rfl, rfl, h1⟩, ⟨_, rfl, rfl, h2⟩, ⟨_, rfl, rfl, h3⟩, ⟨_, rfl, rfl, h4⟩, trivial⟩ ha
  have e1 : idsOf [3, 4, 5, 6, 7] (heapOf [c0, c1, c2, u5 a0, u5 a1, u5 a2, u5 a3, u5 a4]).next [b0, b1, b2, b3, b4].length = [3, 4, 5, 6, 7] := rfl
  rw [e1] at h
  have e2 : layO [3, 4, 5, 6, 7] (heapOf [c0, c1, c2, u5 a0, u5 a1, u5 a2, u5 a3, u5 a4]) [3, 4, 5, 6, 7] [b0, b1, b2, b3, b4] = heapOf [c0, c1, c2, u5 b0, u5 b1, u5 b2, u5 b3, u5 b4] := by
    simp only [layO]
    rw [heapOf_set _ _ _ (by simp), heapOf_set _ _ _ (by simp), heapOf_set _ _ _ (by simp), heapOf_set _ _ _ (by simp), heapOf_set _ _ _ (by simp)]
    rfl
  rw [e2] at h
  exact h
theorem lend1 {f : FuncId} {args0 args : List Value} {v : Value} {c0 c1 c2 b0 b1 b2 b3 b4 : Blk} (c : Lent E f args0 blk0 v [b0, b1, b2, b3, b4]) (ha : args = args0.map (unV [3])) :
    SCall E f args (heapOf [c0, c1, c2, ⟨66, true, [.int .i64 1, .int .i64 60, .slice none 0 0]⟩]) (unT [3, 4, 5, 6, 7] v) (heapOf [c0, c1, c2, u5 b0, u5 b1, u5 b2, u5 b3, u5 b4]) := by
  have h := SCall.lend (h := heapOf [c0, c1, c2, ⟨66, true, [.int .i64 1, .int .i64 60, .slice none 0 0]⟩]) [3] c (by decide) ⟨⟨_, rfl, rfl, rfl⟩, trivial⟩ ha
  have e1 : idsOf [3] (heapOf [c0, c1, c2, ⟨66, true, [.int .i64 1, .int .i64 60, .slice none 0 0]⟩]).next [b0, b1, b2, b3, b4].length = [3, 4, 5, 6, 7] := rfl
  rw [e1] at h
  have e2 : layO [3, 4, 5, 6, 7] (heapOf [c0, c1, c2, ⟨66, true, [.int .i64 1, .int .i64 60, .slice none 0 0]⟩]) [3] [b0, b1, b2, b3, b4] = heapOf [c0, c1, c2, u5 b0, u5 b1, u5 b2, u5 b3, u5 b4] := by
    simp only [layO]
    rw [heapOf_set _ _ _ (by simp), heapOf_alloc, heapOf_alloc, heapOf_alloc, heapOf_alloc]
    rfl
  rw [e2] at h
  exact h
theorem get5 {b : Nat} (h : b < 5) : decide (([3, 4, 5, 6, 7] : List Nat).getD b 0 < 8) = true := by
  match b, h with
  | 0, _ => rfl
  | 1, _ => rfl
  | 2, _ => rfl
  | 3, _ => rfl
  | 4, _ => rfl
theorem okC_un5 : ∀ w : Value, okC 5 w = true → okC 8 (unC [3, 4, 5, 6, 7] w) = true := fun w h => by
  cases w with
  | pointer a =>
    cases a with
    | none => exact h
    | some a =>
      obtain ⟨b, o, t⟩ := a
      cases t with
      | none => exact get5 (of_decide_eq_true h)
      | some t => cases h
  | slice a n c =>
    cases a with
    | none => exact h
    | some a =>
      obtain ⟨b, o, t⟩ := a
      cases t with
      | none => exact get5 (of_decide_eq_true h)
      | some t => cases h
  | _ => exact h
theorem u5_ok {a : Blk} (h : a.cells.all (okC 5) = true) : (u5 a).cells.all (okC 8) = true := by
  rw [List.all_eq_true] at h ⊢
  intro v hv
  obtain ⟨w, hw, rfl⟩ := List.mem_map.1 (show v ∈ a.cells.map (unC [3, 4, 5, 6, 7]) from hv)
  exact okC_un5 w (h w hw)
theorem f33 : E.funcs 33 = some Try.f33 := by kernel_rfl
theorem open33 (D : ByteArray) (th : Nat → Bool) (h k : Gr) : Lent E 33 [.pointer (some ⟨0, 0, none⟩)] (blkD D th h k) (.int .i64 0) (blkD D th h k) := by
  refine Lent.of f33 rfl (of_decide_eq_true (by kernel_rfl)) rfl rfl (Nat.le_refl _) (by kernel_rfl) (all5 (by kernel_rfl) (by kernel_rfl) (by kernel_rfl) (okCs_flat (dC_flat _ _ _)) (okCs_flat (bC_flat _ _))) (by kernel_rfl) ?_
  have c1 : SCall E 60 [.pointer (some ⟨0, 0, none⟩)] (heapOf (blkD D th h k)) (.bool false) (heapOf (blkD D th h k)) := SCall.closed 60 (by kernel_rfl)
  unfold blkD at c1 ⊢
  refine Wp.seq (Wp.text ?_)
  refine kp 2 (.int IntKind.i64 0) ?_
  refine WpOps.nil (thenK_at (Wp.seq (Wp.seq (Wp.text ?_))))
  refine kp 3 (.pointer (some ⟨0, 0, none⟩)) ?_
  refine cl 4 60 [Value.pointer (some ⟨0, 0, none⟩)] ?_
  refine WpCall.enterL c1 rfl ?_
  refine WpOps.nil (thenK_at (off' (Wp.skip (thenK_at (Wp.seq (Wp.text ?_))))))
  refine kp 5 (.pointer (some ⟨0, 0, none⟩)) ?_
  refine kp 6 (.pointer (some ⟨0, 0, none⟩)) ?_
  refine kp 7 (.pointer (some ⟨0, 2, none⟩)) ?_
  refine kp 8 (.slice (some ⟨1, 0, none⟩) 0 1) ?_
  refine kp 9 (.int IntKind.i64 (↑0 : Int)) ?_
  refine kp 2 (.int IntKind.i64 (↑0 : Int)) ?_
  refine WpOps.nil (thenK_at (Wp.ret ?_))
  refine endK_retn [Value.int IntKind.i64 (↑0 : Int)] (Value.int IntKind.i64 (↑0 : Int)) (by kernel_rfl) (by kernel_rfl) ?_
  exact lentSame _ (pre5 ⟨by kernel_rfl, by kernel_rfl⟩ ⟨by kernel_rfl, by kernel_rfl⟩ ⟨by kernel_rfl, by kernel_rfl⟩ ⟨by kernel_rfl, okCs_flat (dC_flat _ _ _)⟩ ⟨by kernel_rfl, okCs_flat (bC_flat _ _)⟩) (.w (.un rfl rfl))
end Go.Proofs.Ytpkkcpglbjbgfaa.D
