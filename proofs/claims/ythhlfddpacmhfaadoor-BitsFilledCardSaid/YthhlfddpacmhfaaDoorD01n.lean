/- Bits: Unpack, by the kit's walk over the shelf's strings.Builder. -/
import Derived.WalkKit
import Derived.BigCall
import Derived.Shelf.Strings.Builder1
import Derived.Test.YthhlfddpacmhfaaDoorFwLem
import Derived.Test.YthhlfddpacmhfaaDoorD01l
namespace Go.Proofs.YthhlfddpacmhfaaDoor.D
open Go.Fw Go.RowKit Go.Shelf Go.Lib

def unS (s : ByteArray) : Nat → ByteArray
  | 0 => ⟨#[]⟩
  | k + 1 => unS s k ++ wrS (byteAt s k).toNat 8
theorem unS_size (s : ByteArray) : ∀ k, (unS s k).size = 8 * k
  | 0 => rfl
  | k + 1 => by
    have h : (wrS (byteAt s k).toNat 8).size = 8 := mkB_size _ _
    rw [unS, ByteArray.size_append, unS_size s k, h]
    omega
theorem unS_at (s : ByteArray) : ∀ k p, p < 8 * k → byteAt (unS s k) p = wB (byteAt s (p / 8)).toNat 8 (p % 8)
  | 0, p, h => absurd h (by omega)
  | k + 1, p, h => by
    have hz := unS_size s k
    rw [unS]
    by_cases h1 : p < 8 * k
    · rw [byteAt_left _ _ _ (by omega), unS_at s k p h1]
    · have h2 := byteAt_right (unS s k) (wrS (byteAt s k).toNat 8) (p - 8 * k)
      rw [hz, show 8 * k + (p - 8 * k) = p by omega] at h2
      rw [h2]
      unfold wrS
      rw [mkB_at _ _ _ (by omega), show p / 8 = k by omega, show p % 8 = p - 8 * k by omega]
theorem own_later {w w' : World} {B : Nat} {e : TypeId} {size n : Nat} {v : Value} {xs : List Value} (h : w.ownsRow B e size v n xs) (b : Below w.heap.size w w') : w'.ownsRow B e size v n xs := by
  refine ⟨h.1, ?_⟩
  rcases h.2 with hn | ⟨g, cap, cur, hv, hb, hg, rest⟩
  · exact .inl hn
  · exact .inr ⟨g, cap, cur, hv, hb, (b.block g (Array.getElem?_eq_some_iff.1 hg).1).trans hg, rest⟩
theorem at_later {T e : TypeId} {B k : Nat} {p : Value} {bs : List Value} {w w' : World} (h : Lib.BuilderAt T e B k p bs w) (b : Below w.heap.size w w') : Lib.BuilderAt T e B k p bs w' := by
  obtain ⟨h1, v, h2, h3, h4⟩ := h
  exact ⟨h1, v, (b.block k (Array.getElem?_eq_some_iff.1 h2).1).trans h2, own_later h3 b, h4⟩
theorem is_later {T e : TypeId} {B k : Nat} {bs : List Value} {w w' : World} (h : Lib.IsBuilder T e B k bs w) (b : Below w.heap.size w w') : Lib.IsBuilder T e B k bs w' :=
  h.elim (fun h => .inl (at_later h b)) fun h => .inr (at_later h b)
theorem below_le {B B' : Nat} {w w' : World} (b : Below B' w w') (h : B ≤ B') : Below B w w' := ⟨b.os, b.tape, b.output, b.size, fun k hk => b.block k (by omega)⟩
theorem wr' (z : Int) (h0 : 0 ≤ z) (h1 : z ≤ 9223372036854775807) : IntKind.i64.wrap z = z := wr z h0 h1
theorem written_calls (N : Nat) (hN : N < 18446744073709551616) (w : World) : Calls Tryd.prog 33 #[.int .u64 N, .int .i64 8] w fun e w' => e = .returned (.string (wrS N 8)) ∧ Below w.heap.size w w' :=
  ((written33 N 8 (by decide) hN).calls rfl okE (w := w) (args' := #[.int .u64 N, .int .i64 8]) (.cons (.int _ _) (.cons (.int _ _) .nil))).mono fun e W' ⟨v', μ', he, bel, hv⟩ => ⟨by rw [he, hv.inv_string], bel⟩
theorem byteAt_elem (s : ByteArray) (k : Nat) (h : k < s.size) : s[k] = byteAt s k := by
  have e := byteAt_get s k h
  rw [Array.getElem?_toList, Array.getElem?_eq_getElem h] at e
  exact Option.some.inj e
theorem written_calls' (s : ByteArray) (k : Nat) (h : k < s.size) (w : World) : Calls Tryd.prog 33 #[.int .u64 (IntKind.u64.wrap ((s[k]).toNat : Int)), .int .i64 8] w fun e w' => e = .returned (.string (wrS (byteAt s k).toNat 8)) ∧ Below w.heap.size w w' := by
  rw [byteAt_elem s k h]
  have hb := UInt8.toNat_lt (byteAt s k)
  have e : IntKind.u64.wrap ((byteAt s k).toNat : Int) = ((byteAt s k).toNat : Int) := by
    show ((byteAt s k).toNat : Int) % 18446744073709551616 = _
    omega
  rw [e]
  exact written_calls _ (by omega) w
set_option maxHeartbeats 400000 in
set_option maxRecDepth 1000000 in
theorem unpack_calls (s : ByteArray) (w : World) (hs : s.size ≤ 4000) :
    Calls Tryd.prog 28 #[.string s] w fun e w' => e = .returned (.tuple #[.string (unS s s.size), .int .i64 0]) ∧ Below w.heap.size w w' := by
  have d1 : decide ((s.size : Int) > 4000) = false := decide_eq_false (by omega)
  go_enter Tryd.func28, Tryd.ntmps28
  go_wp2
  go_loopw [11] (fun vi wr => ∃ k : Nat, vi = .int .i64 k ∧ k ≤ s.size ∧ Lib.IsBuilder 52 5 w.heap.size w.heap.size (Lib.byteCells (unS s k).data.toList) wr ∧ Below w.heap.size w wr) (fun vi wr => s.size - (match vi with | .int _ n => n.toNat | _ => 0))
  case atStart =>
    exact ⟨0, rfl, Nat.zero_le _, Lib.fresh_isBuilder 52 5 w, (Below.refl _ w).alloc (Nat.le_refl _) _⟩
  case round =>
    obtain ⟨k, rfl, hk, hI, hbw⟩ := hrel
    have hsz := hbw.size
    by_cases hkl : k < s.size
    · have d2 : decide ((k : Int) < s.size) = true := decide_eq_true (by omega)
      have n3 : s[((k : Int)).toNat]? = some (byteAt s k) := byte_get s k (by omega)
      go_wp2_with (go_at_call 33; refine (written_calls' s k hkl _).mono ?_)
      rintro e W1 ⟨rfl, b1⟩
      have hI2 := is_later hI b1
      have hl1 : (Lib.byteCells (unS s k).data.toList).length + (wrS (byteAt s k).toNat 8).size ≤ 140737488355328 := by
        have h1 : (wrS (byteAt s k).toNat 8).size = 8 := mkB_size _ _
        have h2 := unS_size s k
        rw [Lib.byteCells_length, Array.length_toList, h1]
        show (unS s k).size + 8 ≤ _
        omega
      have hs1 : w.heap.size ≤ W1.heap.size := Nat.le_trans hsz b1.size
      go_wp2_with (go_at_call 37; refine (Any.Builder_WriteString { lays105 with } extra105 w.heap.size w.heap.size _ (wrS (byteAt s k).toNat 8) _ hI2 hl1 hs1).mono ?_)
      rintro e W2 ⟨rfl, h2, b2⟩
      go_wp2
      go_roundw
      case rel =>
        refine ⟨k + 1, ?_, hkl, .inr ?_, ?_⟩
        · rfl
        · have e : Lib.byteCells (unS s (k + 1)).data.toList = Lib.byteCells (unS s k).data.toList ++ strCells (wrS (byteAt s k).toNat 8) := by
            rw [Lib.strCells_eq, ← Lib.byteCells_append, unS, ByteArray.data_append, Array.toList_append]
          rw [e]
          exact h2
        · exact hbw.trans ((below_le b1 hsz).trans b2)
      case measure =>
        show s.size - ((k : Int) + 1).toNat < s.size - ((k : Int)).toNat
        omega
    · obtain rfl : k = s.size := by omega
      have d2 : decide ((s.size : Int) < s.size) = false := decide_eq_false (by omega)
      go_wp2_with (go_at_call 38; refine (Any.Builder_String_any { lays105 with } extra105 w.heap.size w.heap.size _ _ hI hsz).mono ?_)
      rintro e W1 ⟨rfl, b1⟩
      go_wp2
      go_ret2
      exact ⟨rfl, hbw.trans b1⟩
theorem f28 : E.funcs 28 = some Tryd.f28 := by kernel_rfl
theorem unpack_long (s : ByteArray) (w : World) (hs : ¬ s.size ≤ 4000) :
    Calls Tryd.prog 28 #[.string s] w fun e w' => e = .returned (.tuple #[.string ⟨#[]⟩, .int .i64 2]) ∧ Below w.heap.size w w' := by
  have d1 : decide ((s.size : Int) > 4000) = true := decide_eq_true (by omega)
  go_enter Tryd.func28, Tryd.ntmps28
  go_wp2
  go_ret2
  exact ⟨rfl, Below.refl _ _⟩
theorem plainW {E : Env} {h : Heap} {μ : Fw.Place} {H : Mem} {v : Value} (hp : baseV v = true) : WRel E h μ H v v := by
  cases v <;> first | cases hp | skip
  · exact .c (.s (.bool _))
  · exact .c (.s (.int _ _))
  · exact .c (.s (.string _))
theorem lib2 {E : Env} {f : FuncId} {fn : Func} {c : Code} {args : List Value} {u v : Value} (hf : E.funcs f = some fn) (hb : fn.body = some c) (ha : args.all baseV = true) (hu : baseV u = true) (hv : baseV v = true) (hi : iceV E Heap.none (.tuple #[u, v]) = some (.tuple #[u, v]))
    (h : ∀ w : World, Calls E.prog f args.toArray w fun e w' => e = .returned (.tuple #[u, v]) ∧ Below w.heap.size w w') : Fun E f args (.tuple #[u, v]) := by
  intro ok
  refine ⟨⟨fn, hf, by rw [hb]; rfl⟩, hi, fun base μ w args' R hbase hargs => ?_⟩
  have e : args' = args.toArray := by
    apply Array.ext'
    rw [VRel.plains hargs ha]
  rw [e]
  refine Calls.mono (h w) fun e w' he => ?_
  obtain ⟨rfl, bl⟩ := he
  have hy : ∀ k, μ.Y k → k < w.heap.size := R.ice
  refine ⟨.tuple #[u, v], μ, rfl, Rel.none μ base fun k hk => Nat.lt_of_lt_of_le (hy k hk) bl.size, ⟨bl.mono hbase, Nat.zero_le _, fun b _ => rfl, fun b x' hb => absurd hb (Nat.not_lt_zero _), fun k cs T fr hk => ?_, fun k hk => hk, fun k hk => bl.block k (hy k hk), fun k hk => .inl hk, fun k hk => hk, fun k hk => .inl hk⟩, (?_ : VRel E _ _ _ (.tuple #[u, v]) (.tuple #[u, v]))⟩
  rotate_right
  · exact .tuple (.cons (plainW hu) (.cons (plainW hv) .nil))
  have hlt : k < w.heap.size := by
    rcases Nat.lt_or_ge k w.heap.size with h | h
    · exact h
    · rw [Array.getElem?_eq_none h] at hk
      cases hk
  exact ⟨cs, fr, by rw [bl.block k hlt]; exact hk, rfl⟩
def unpackV (s : ByteArray) : Value := if s.size ≤ 4000 then .tuple #[.string (unS s s.size), .int .i64 0] else .tuple #[.string ⟨#[]⟩, .int .i64 2]
theorem unpack28 (s : ByteArray) : Fun E 28 [.string s] (unpackV s) := by
  unfold unpackV
  split
  · rename_i h
    exact lib2 f28 rfl rfl rfl rfl rfl fun w => unpack_calls s w h
  · rename_i h
    exact lib2 f28 rfl rfl rfl rfl rfl fun w => unpack_long s w h
end Go.Proofs.YthhlfddpacmhfaaDoor.D
