/- bits.Spoil by the machine of our own. -/
import Derived.Test.YthhlfddpacmhfaaFwLem
import Derived.Test.YthhlfddpacmhfaaProg
import Derived.WalkKit
namespace Go.Proofs.Ythhlfddpacmhfaa.Fw1
open Go.Fw Go.RowKit

/-- All calls of these in memories of their own: 7 sane, 10 Sum, 11 Spoil. -/
noncomputable def E : Env := envWith Try.prog [7, 10, 11]
theorem okE : EnvOk E Try.prog := envOf_ok (by kernel_rfl) _
theorem f11 : E.funcs 11 = some Try.f11 := by kernel_rfl

theorem cellBytes_bytes (l : List UInt8) : cellBytes (l.map fun b => Value.int .u8 b.toNat) = some l := by
  induction l with
  | nil => rfl
  | cons x r ih => simp [cellBytes, cellByte, ih]
theorem cellBytes_set (l : List UInt8) (j : Nat) (v : Int) : cellBytes ((l.map fun b => Value.int .u8 b.toNat).set j (.int .u8 v)) = some (l.set j (UInt8.ofNat v.toNat)) := by
  induction l generalizing j with
  | nil => simp [cellBytes]
  | cons x r ih =>
    cases j with
    | zero => simp [cellBytes, cellByte, cellBytes_bytes]
    | succ j => simp [cellBytes, cellByte, ih]
theorem byteCells_get (b : ByteArray) (j : Nat) (hj : j < b.size) : (byteCells b)[j]? = some (.int .u8 (b.data.toList.getD j 0).toNat) := by
  have : j < b.data.toList.length := by rw [Array.length_toList]; exact hj
  simp only [byteCells, List.getElem?_map, List.getElem?_eq_getElem this, Option.map_some, List.getD_eq_getElem?_getD, Option.getD_some]

/-- The place, the byte laid there, the bytes. -/
def place (b : ByteArray) (a : Int) : Int := (IntKind.i64.wrap (a.tmod b.size + b.size)).tmod b.size
def laid (b : ByteArray) (a : Int) : Int := IntKind.u8.wrap (((b.data.toList.getD (place b a).toNat 0).toNat : Int).tmod 255 + 1)
def spoilt (b : ByteArray) (a : Int) : ByteArray := ⟨(b.data.toList.set (place b a).toNat (UInt8.ofNat (laid b a).toNat)).toArray⟩

theorem spoil (b : ByteArray) (at_ : Int) (hb : (b.toList == ByteArray.toList { data := #[] }) = false) (h0 : 0 ≤ place b at_) (h1 : place b at_ < b.size) : WpCall E 11 [.string b, .int .i64 at_] Heap.none fun v _ => v = .tuple #[.string (spoilt b at_), .int .i64 0] := by
  refine WpCall.of f11 rfl (by show 2 ≤ 32; decide) ?_
  have hj : 0 + ((IntKind.i64.wrap (at_.tmod b.size + b.size)).tmod b.size).toNat * 1 = (place b at_).toNat := by unfold place; omega
  have hx : (byteCells b)[0 + ((IntKind.i64.wrap (at_.tmod b.size + b.size)).tmod b.size).toNat * 1]? = some (.int .u8 (b.data.toList.getD (place b at_).toNat 0).toNat) := by
    rw [hj]; exact byteCells_get b _ (by omega)
  have hc : cellBytes (((((byteCells b).set (0 + ((IntKind.i64.wrap (at_.tmod b.size + b.size)).tmod b.size).toNat * 1) (.int .u8 (laid b at_)))).drop 0).take b.size) = some (b.data.toList.set (place b at_).toNat (UInt8.ofNat (laid b at_).toNat)) := by
    rw [hj, List.drop_zero, List.take_of_length_le (by rw [List.length_set, byteCells_length]; exact Nat.le_refl _)]
    exact cellBytes_set _ _ _
  have hne : ¬ ((b.size : Int) = 0) := by omega
  have hr : 0 ≤ (IntKind.i64.wrap (at_.tmod b.size + b.size)).tmod b.size ∧ (IntKind.i64.wrap (at_.tmod b.size + b.size)).tmod b.size < b.size := ⟨h0, h1⟩
  refine Wp.seq ?_
  refine Wp.text ?_
  refine WpOps.keep 4 (Value.string (ByteArray.mk #[])) (by kernel_rfl) (by kernel_rfl) (by kernel_rfl) ?_ (fun cf => (by kernel_rfl))
  refine WpOps.keep 5 (Value.int IntKind.i64 0) (by kernel_rfl) (by kernel_rfl) (by kernel_rfl) ?_ (fun cf => (by kernel_rfl))
  refine WpOps.nil ?_
  refine thenK_at ?_
  refine Wp.seq ?_
  refine Wp.seq ?_
  refine Wp.text ?_
  refine WpOps.keep 7 (Value.string b) (by kernel_rfl) (by kernel_rfl) (by kernel_rfl) ?_ (fun cf => (by kernel_rfl))
  refine WpOps.keep 8 (Value.bool (ByteArray.toList b == ByteArray.toList (ByteArray.mk #[]))) (by kernel_rfl) (by kernel_rfl) (by kernel_rfl) ?_ (fun cf => (by kernel_rfl))
  refine WpOps.nil ?_
  refine thenK_at ?_
  refine Wp.cond (t := ByteArray.toList b == ByteArray.toList (ByteArray.mk #[])) (by kernel_rfl) ?_
  rw [hb]
  refine Wp.skip ?_
  refine thenK_at ?_
  refine Wp.seq ?_
  refine Wp.text ?_
  refine WpOps.keep 9 (Value.string b) (by kernel_rfl) (by kernel_rfl) (by kernel_rfl) ?_ (fun cf => (by kernel_rfl))
  refine WpOps.made 10 (Value.slice (some (Addr.mk 0 0 none)) (ByteArray.size b) (ByteArray.size b)) (Blk.mk 5 true (byteCells b)) (by kernel_rfl) (by kernel_rfl) (by kernel_rfl) ?_ (fun cf => (by kernel_rfl))
  refine WpOps.keep 6 (Value.slice (some (Addr.mk 0 0 none)) (ByteArray.size b) (ByteArray.size b)) (by kernel_rfl) (by kernel_rfl) (by kernel_rfl) ?_ (fun cf => (by kernel_rfl))
  refine WpOps.nil ?_
  refine thenK_at ?_
  refine Wp.seq ?_
  refine Wp.text ?_
  refine WpOps.keep 11 (Value.int IntKind.i64 at_) (by kernel_rfl) (by kernel_rfl) (by kernel_rfl) ?_ (fun cf => (by kernel_rfl))
  refine WpOps.keep 12 (Value.slice (some (Addr.mk 0 0 none)) (ByteArray.size b) (ByteArray.size b)) (by kernel_rfl) (by kernel_rfl) (by kernel_rfl) ?_ (fun cf => (by kernel_rfl))
  refine WpOps.keep 13 (Value.int IntKind.i64 (↑(ByteArray.size b) : Int)) (by kernel_rfl) (by kernel_rfl) (by kernel_rfl) ?_ (fun cf => (by kernel_rfl))
  refine WpOps.keep 14 (Value.int IntKind.i64 (Int.tmod at_ (↑(ByteArray.size b) : Int))) (by kernel_rfl) (by kernel_rfl) (by kernel_rfl) ?_ (fun cf => o_rem hne (by kernel_rfl) (by kernel_rfl))
  refine WpOps.keep 15 (Value.slice (some (Addr.mk 0 0 none)) (ByteArray.size b) (ByteArray.size b)) (by kernel_rfl) (by kernel_rfl) (by kernel_rfl) ?_ (fun cf => (by kernel_rfl))
  refine WpOps.keep 16 (Value.int IntKind.i64 (↑(ByteArray.size b) : Int)) (by kernel_rfl) (by kernel_rfl) (by kernel_rfl) ?_ (fun cf => (by kernel_rfl))
  refine WpOps.keep 17 (Value.int IntKind.i64 (IntKind.wrap IntKind.i64 (Int.tmod at_ (↑(ByteArray.size b) : Int) + (↑(ByteArray.size b) : Int)))) (by kernel_rfl) (by kernel_rfl) (by kernel_rfl) ?_ (fun cf => (by kernel_rfl))
  refine WpOps.keep 18 (Value.slice (some (Addr.mk 0 0 none)) (ByteArray.size b) (ByteArray.size b)) (by kernel_rfl) (by kernel_rfl) (by kernel_rfl) ?_ (fun cf => (by kernel_rfl))
  refine WpOps.keep 19 (Value.int IntKind.i64 (↑(ByteArray.size b) : Int)) (by kernel_rfl) (by kernel_rfl) (by kernel_rfl) ?_ (fun cf => (by kernel_rfl))
  refine WpOps.keep 20 (Value.int IntKind.i64 (Int.tmod (IntKind.wrap IntKind.i64 (Int.tmod at_ (↑(ByteArray.size b) : Int) + (↑(ByteArray.size b) : Int))) (↑(ByteArray.size b) : Int))) (by kernel_rfl) (by kernel_rfl) (by kernel_rfl) ?_ (fun cf => o_rem hne (by kernel_rfl) (by kernel_rfl))
  refine WpOps.keep 1 (Value.int IntKind.i64 (Int.tmod (IntKind.wrap IntKind.i64 (Int.tmod at_ (↑(ByteArray.size b) : Int) + (↑(ByteArray.size b) : Int))) (↑(ByteArray.size b) : Int))) (by kernel_rfl) (by kernel_rfl) (by kernel_rfl) ?_ (fun cf => (by kernel_rfl))
  refine WpOps.nil ?_
  refine thenK_at ?_
  refine Wp.seq ?_
  refine Wp.text ?_
  refine WpOps.keep 21 (Value.slice (some (Addr.mk 0 0 none)) (ByteArray.size b) (ByteArray.size b)) (by kernel_rfl) (by kernel_rfl) (by kernel_rfl) ?_ (fun cf => (by kernel_rfl))
  refine WpOps.keep 22 (Value.int IntKind.i64 (Int.tmod (IntKind.wrap IntKind.i64 (Int.tmod at_ (↑(ByteArray.size b) : Int) + (↑(ByteArray.size b) : Int))) (↑(ByteArray.size b) : Int))) (by kernel_rfl) (by kernel_rfl) (by kernel_rfl) ?_ (fun cf => (by kernel_rfl))
  refine WpOps.keep 23 (Value.slice (some (Addr.mk 0 0 none)) (ByteArray.size b) (ByteArray.size b)) (by kernel_rfl) (by kernel_rfl) (by kernel_rfl) ?_ (fun cf => (by kernel_rfl))
  refine WpOps.keep 24 (Value.int IntKind.i64 (Int.tmod (IntKind.wrap IntKind.i64 (Int.tmod at_ (↑(ByteArray.size b) : Int) + (↑(ByteArray.size b) : Int))) (↑(ByteArray.size b) : Int))) (by kernel_rfl) (by kernel_rfl) (by kernel_rfl) ?_ (fun cf => (by kernel_rfl))
  refine WpOps.keep 25 (Value.pointer (some (Addr.mk 0 (0 + Int.toNat (Int.tmod (IntKind.wrap IntKind.i64 (Int.tmod at_ (↑(ByteArray.size b) : Int) + (↑(ByteArray.size b) : Int))) (↑(ByteArray.size b) : Int)) * 1) none))) (by kernel_rfl) (by kernel_rfl) (by kernel_rfl) ?_ (fun cf => o_indexAddr 5 (ByteArray.size b) hr (by kernel_rfl) (by kernel_rfl) (by kernel_rfl) (by kernel_rfl))
  refine WpOps.keep 26 (Value.int IntKind.u8 (↑(UInt8.toNat (List.getD (Array.toList (ByteArray.data b)) (Int.toNat (place b at_)) 0)) : Int)) (by kernel_rfl) (by kernel_rfl) (by kernel_rfl) ?_ (fun cf => o_load1 0 (0 + Int.toNat (Int.tmod (IntKind.wrap IntKind.i64 (Int.tmod at_ (↑(ByteArray.size b) : Int) + (↑(ByteArray.size b) : Int))) (↑(ByteArray.size b) : Int)) * 1) hx (by kernel_rfl) (by kernel_rfl) (by kernel_rfl))
  refine WpOps.keep 27 (Value.int IntKind.u8 (Int.tmod (↑(UInt8.toNat (List.getD (Array.toList (ByteArray.data b)) (Int.toNat (place b at_)) 0)) : Int) 255)) (by kernel_rfl) (by kernel_rfl) (by kernel_rfl) ?_ (fun cf => (by kernel_rfl))
  refine WpOps.keep 28 (Value.int IntKind.u8 (IntKind.wrap IntKind.u8 (Int.tmod (↑(UInt8.toNat (List.getD (Array.toList (ByteArray.data b)) (Int.toNat (place b at_)) 0)) : Int) 255 + 1))) (by kernel_rfl) (by kernel_rfl) (by kernel_rfl) ?_ (fun cf => (by kernel_rfl))
  refine WpOps.keep 29 (Value.pointer (some (Addr.mk 0 (0 + Int.toNat (Int.tmod (IntKind.wrap IntKind.i64 (Int.tmod at_ (↑(ByteArray.size b) : Int) + (↑(ByteArray.size b) : Int))) (↑(ByteArray.size b) : Int)) * 1) none))) (by kernel_rfl) (by kernel_rfl) (by kernel_rfl) ?_ (fun cf => o_indexAddr 5 (ByteArray.size b) hr (by kernel_rfl) (by kernel_rfl) (by kernel_rfl) (by kernel_rfl))
  refine WpOps.laid (Value.tuple #[]) 0 (Blk.mk 5 true (List.set (byteCells b) (0 + Int.toNat (Int.tmod (IntKind.wrap IntKind.i64 (Int.tmod at_ (↑(ByteArray.size b) : Int) + (↑(ByteArray.size b) : Int))) (↑(ByteArray.size b) : Int)) * 1) (Value.int IntKind.u8 (IntKind.wrap IntKind.u8 (Int.tmod (↑(UInt8.toNat (List.getD (Array.toList (ByteArray.data b)) (Int.toNat (place b at_)) 0)) : Int) 255 + 1))))) (by kernel_rfl) (by kernel_rfl) (by kernel_rfl) ?_ (fun cf => o_store1 0 (0 + Int.toNat (Int.tmod (IntKind.wrap IntKind.i64 (Int.tmod at_ (↑(ByteArray.size b) : Int) + (↑(ByteArray.size b) : Int))) (↑(ByteArray.size b) : Int)) * 1) ?_ (by kernel_rfl) (by kernel_rfl) (by kernel_rfl) (by kernel_rfl) (by kernel_rfl))
  refine WpOps.nil ?_
  refine thenK_at ?_
  refine Wp.seq ?_
  refine Wp.text ?_
  refine WpOps.keep 30 (Value.slice (some (Addr.mk 0 0 none)) (ByteArray.size b) (ByteArray.size b)) (by kernel_rfl) (by kernel_rfl) (by kernel_rfl) ?_ (fun cf => (by kernel_rfl))
  refine WpOps.keep 31 (Value.string (ByteArray.mk (List.toArray (List.set (Array.toList (ByteArray.data b)) (Int.toNat (place b at_)) (UInt8.ofNat (Int.toNat (laid b at_))))))) (by kernel_rfl) (by kernel_rfl) (by kernel_rfl) ?_ (fun cf => o_bytes 5 0 (0) (ByteArray.size b) ?_ hc (by kernel_rfl) (by kernel_rfl) (by kernel_rfl) (by kernel_rfl) (by kernel_rfl))
  refine WpOps.keep 4 (Value.string (ByteArray.mk (List.toArray (List.set (Array.toList (ByteArray.data b)) (Int.toNat (place b at_)) (UInt8.ofNat (Int.toNat (laid b at_))))))) (by kernel_rfl) (by kernel_rfl) (by kernel_rfl) ?_ (fun cf => (by kernel_rfl))
  refine WpOps.keep 5 (Value.int IntKind.i64 0) (by kernel_rfl) (by kernel_rfl) (by kernel_rfl) ?_ (fun cf => (by kernel_rfl))
  refine WpOps.nil ?_
  refine thenK_at ?_
  refine Wp.ret ?_
  refine endK_retn [Value.string (ByteArray.mk (List.toArray (List.set (Array.toList (ByteArray.data b)) (Int.toNat (place b at_)) (UInt8.ofNat (Int.toNat (laid b at_)))))), Value.int IntKind.i64 0] (by kernel_rfl) ?_
  · rfl
  all_goals first | exact hr | (refine ⟨rfl, ?_⟩; rw [hj, byteCells_length]; simp only [List.length_singleton]; omega) | (rw [List.length_set, byteCells_length]; omega)

theorem spoil_none (b : ByteArray) (at_ : Int) (hb : (b.toList == ByteArray.toList { data := #[] }) = true) : WpCall E 11 [.string b, .int .i64 at_] Heap.none fun v _ => v = .tuple #[.string ⟨#[]⟩, .int .i64 0] := by
  refine WpCall.of f11 rfl (by show 2 ≤ 32; decide) ?_
  refine Wp.seq ?_
  refine Wp.text ?_
  refine WpOps.keep 4 (Value.string (ByteArray.mk #[])) (by kernel_rfl) (by kernel_rfl) (by kernel_rfl) ?_ (fun cf => (by kernel_rfl))
  refine WpOps.keep 5 (Value.int IntKind.i64 0) (by kernel_rfl) (by kernel_rfl) (by kernel_rfl) ?_ (fun cf => (by kernel_rfl))
  refine WpOps.nil ?_
  refine thenK_at ?_
  refine Wp.seq ?_
  refine Wp.seq ?_
  refine Wp.text ?_
  refine WpOps.keep 7 (Value.string b) (by kernel_rfl) (by kernel_rfl) (by kernel_rfl) ?_ (fun cf => (by kernel_rfl))
  refine WpOps.keep 8 (Value.bool (ByteArray.toList b == ByteArray.toList (ByteArray.mk #[]))) (by kernel_rfl) (by kernel_rfl) (by kernel_rfl) ?_ (fun cf => (by kernel_rfl))
  refine WpOps.nil ?_
  refine thenK_at ?_
  refine Wp.cond (t := ByteArray.toList b == ByteArray.toList (ByteArray.mk #[])) (by kernel_rfl) ?_
  rw [hb]
  refine Wp.seq ?_
  refine Wp.text ?_
  refine WpOps.keep 4 (Value.string (ByteArray.mk #[])) (by kernel_rfl) (by kernel_rfl) (by kernel_rfl) ?_ (fun cf => (by kernel_rfl))
  refine WpOps.keep 5 (Value.int IntKind.i64 0) (by kernel_rfl) (by kernel_rfl) (by kernel_rfl) ?_ (fun cf => (by kernel_rfl))
  refine WpOps.nil ?_
  refine thenK_at ?_
  refine Wp.ret ?_
  refine thenK_ret ?_
  refine endK_retn [Value.string (ByteArray.mk #[]), Value.int IntKind.i64 0] (by kernel_rfl) ?_
  rfl

theorem calls (b : ByteArray) (at_ : Int) (w : World) (r1 : ByteArray) (r2 : Int) (h : WpCall E 11 [.string b, .int .i64 at_] Heap.none fun v _ => v = .tuple #[.string r1, .int .i64 r2]) :
    Calls Try.prog 11 #[.string b, .int .i64 at_] w fun e w' => e = .returned (.tuple #[.string r1, .int .i64 r2]) ∧ Below w.heap.size w w' := by
  have := h.calls okE (μ := fun _ => (0, 0)) (base := w.heap.size) (w := w) (args' := #[.string b, .int .i64 at_]) (Rel.none _ _) (Nat.le_refl _) (.cons (.string _) (.cons (.int _ _) .nil))
  refine this.mono fun e w' hh => ?_
  obtain ⟨v, h', v', μ', rfl, rfl, _, _, hb, hv⟩ := hh
  obtain ⟨a', rfl, h2⟩ := hv.inv_tuple
  obtain ⟨x, y, he, h3, h4⟩ := All2.inv2 h2
  have e1 := (VRel.w h3).inv_string
  have e2 := (VRel.w h4).inv_int
  subst e1 e2
  refine ⟨?_, hb⟩
  have : a' = #[Value.string r1, Value.int .i64 r2] := Array.ext' he
  rw [this]
end Go.Proofs.Ythhlfddpacmhfaa.Fw1
