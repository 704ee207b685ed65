/- vector.Valid, by the kit's walk over the call's own map. -/
import Derived.WalkKit
import Derived.BigCall
import Derived.Maps.Own
import Derived.Maps.OwnOps
import Derived.Maps.Views
import Derived.WideKeyPair
import Derived.Test.YtfjkanjmggbofaaFwLem
import Derived.Test.YtfjkanjmggbofaaFwCons
import Derived.Test.YtfjkanjmggbofaaV12b
namespace Go.Proofs.Ytfjkanjmggbofaa.D
open Go.Fw Go.RowKit Go.Maps Go.WideMaps

theorem arr100 : ArrKey Try.prog 100 3 2 := ⟨Try.underlying100, by kernel_rfl, by kernel_rfl, by kernel_rfl⟩
theorem law100 : Keyed Try.prog 100 := Keyed.of_law arr100.law
def kl (a b : Int) : Lit := .string (keyBytes [.int .i64 a, .int .i64 b])
def wf64 (a : Int) : Prop := (Lit.int .i64 a).wf = true
theorem wf64_of {a : Int} (h : 0 ≤ a ∧ a ≤ 1000) : wf64 a := by
  show (decide (IntKind.i64.min ≤ a) && decide (a ≤ IntKind.i64.max)) = true
  have h1 : (IntKind.i64.min : Int) = -9223372036854775808 := by decide
  have h2 : (IntKind.i64.max : Int) = 9223372036854775807 := by decide
  rw [h1, h2]
  simp
  omega
theorem key100 {a b : Int} (wa : wf64 a) (wb : wf64 b) : keyOf Try.prog 100 (.agg #[.int .i64 a, .int .i64 b]) = some (kl a b) := keyOf_pair arr100 Try.underlying3 ⟨140, by kernel_rfl⟩ wa wb
theorem zero4 (w : World) : (zeroValue 4).run Try.prog w = .ok (.bool false) w := by kernel_rfl
/-- The map behind k links. -/
def Ms (ls : List Lk) : Nat → DataW Unit
  | 0 => .map []
  | k + 1 => (Ms ls k).put (kl (lk ls k).1 (lk ls k).2.1) (.lit (.bool true))
theorem Ms_map (ls : List Lk) : ∀ k, IsMap (Ms ls k)
  | 0 => ⟨[], rfl⟩
  | k + 1 => by
    obtain ⟨es, h⟩ := Ms_map ls k
    refine ⟨DataW.insert (kl (lk ls k).1 (lk ls k).2.1, .lit (.bool true)) (es.filter fun p => !p.1.sameKey (kl (lk ls k).1 (lk ls k).2.1)), ?_⟩
    show (Ms ls k).put _ _ = _
    rw [h]
    rfl
theorem kl_inj {a b a' b' : Int} (wa : wf64 a) (wb : wf64 b) (wa' : wf64 a') (wb' : wf64 b') (h : kl a b = kl a' b') : a = a' ∧ b = b' := by
  have h1 := key100 wa wb
  rw [h] at h1
  have h2 := law100.inj h1 (key100 wa' wb')
  simp at h2
  exact h2
theorem Ms_at (ls : List Lk) {a b : Int} (wa : wf64 a) (wb : wf64 b) : ∀ k, (∀ j, j < k → wf64 (lk ls j).1 ∧ wf64 (lk ls j).2.1) → (Ms ls k).atKey (kl a b) (.lit (.bool false)) = .lit (.bool (!allR k fun j => !sameE (lk ls j) (a, b, 0)))
  | 0, _ => rfl
  | k + 1, hw => by
    have ih := Ms_at ls wa wb k fun j hj => hw j (by omega)
    obtain ⟨w1, w2⟩ := hw k (by omega)
    have hs : (allR (k + 1) fun j => !sameE (lk ls j) (a, b, 0)) = ((allR k fun j => !sameE (lk ls j) (a, b, 0)) && !sameE (lk ls k) (a, b, 0)) := by
      unfold allR
      rw [List.range_succ, List.all_append]
      simp
    rw [hs]
    show ((Ms ls k).put _ _).atKey _ _ = _
    by_cases e : (lk ls k).1 = a ∧ (lk ls k).2.1 = b
    · have h1 : sameE (lk ls k) (a, b, 0) = true := by simp [sameE, e]
      rw [e.1, e.2, atKey_put_same (Ms_map ls k) (law100.key (key100 wa wb)), h1]
      simp
    · have h1 : sameE (lk ls k) (a, b, 0) = false := by
        unfold sameE
        simp
        intro h
        exact fun h2 => e ⟨h, h2⟩
      rw [atKey_put_other (fun h => e ?_), ih, h1]
      · simp
      · obtain ⟨h2, h3⟩ := kl_inj wa wb w1 w2 h
        exact ⟨h2.symm, h3.symm⟩
theorem elem_bool {P : Program} {e : TypeId} (he : P.underlying e = some .bool) {v : Value} {d : DataW Unit} {ps : List MemPlace} (h : plainElem P e v = some (d, ps)) : ∃ c, v = .bool c ∧ d = .lit (.bool c) := by
  unfold plainElem at h
  rw [he] at h
  cases v with
  | bool c =>
    simp only [Option.some.injEq, Prod.mk.injEq] at h
    exact ⟨c, rfl, h.1.symm⟩
  | _ => simp at h
theorem lookup_bool {w : World} {b n : Nat} {D : DataW Unit} (h : w.ownsMap Try.prog 100 (plainElem Try.prog 4) b n D) {key : Value} {l : Lit} (hkey : keyOf Try.prog 100 key = some l) : ∃ c, (Instr.lookup 99 (.map (some b)) key false).run Try.prog w = .ok (.bool c) w ∧ D.atKey l (.lit (.bool false)) = .lit (.bool c) := by
  obtain ⟨v, ps, hrun, hv⟩ := h.lookup law100 Try.underlying99 (zero4 w) (plainElem_bool Try.underlying4 false) hkey
  obtain ⟨c, rfl, hc⟩ := elem_bool Try.underlying4 hv
  exact ⟨c, hrun, hc⟩
theorem wpList_lookup_bool (w : World) {ops : Array Oper} {rest : List Oper} {o : Oper} {a : Act} {Q : Exit → Act → World → Prop} (m x : Operand) (hop : o.op = Op.lookup 99 m x false) (hwant : Region.wanted o (yielded ops a.tmps) = true)
    (b n : Nat) (D : DataW Unit) (hm : a.eval m = .map (some b)) (hown : w.ownsMap Try.prog 100 (plainElem Try.prog 4) b n D) (key : Value) (l : Lit) (hx : a.eval x = key) (hkey : keyOf Try.prog 100 key = some l)
    (hK : ∀ c : Bool, D.atKey l (.lit (.bool false)) = .lit (.bool c) → wpList Try.prog ops Q rest (a.put o.dst (.bool c)) w) : wpList Try.prog ops Q (o :: rest) a w := by
  refine wpList_step fun K' hK' => ?_
  rw [if_pos hwant]
  obtain ⟨c, hrun, hat⟩ := lookup_bool hown hkey
  unfold Oper.wp
  simp [execOp, hop, hm, hx, hrun, Result.andThen]
  exact hK' _ _ (hK c hat)
end Go.Proofs.Ytfjkanjmggbofaa.D
