/- The laws LinkFrames, LinkReads, LinkSpoilt. -/
import Derived.Test.YtgefohjickhldaaFwLem
import Derived.Test.YtgefohjickhldaaF10c
namespace Go.Proofs.Ytgefohjickhldaa.D
open Go.Fw Go.RowKit

def cv (k g s r : Int) (d : ByteArray) : Value := .agg #[.int .i64 k, .int .i64 g, .int .i64 s, .int .i64 r, .string d]
/-- A frame. -/
def frm (k g s r : Int) (d : ByteArray) : ByteArray := summed (fr3 k g s r ++ d)
theorem frm_size (k g s r : Int) (d : ByteArray) : (frm k g s r d).size = d.size + 5 := by
  rw [frm, summed_size, ByteArray.size_append, fr3_size]
  omega
theorem frm_head (k g s r : Int) (d : ByteArray) : (frm k g s r d).extract 0 ((frm k g s r d).size - 2) = fr3 k g s r ++ d := by
  have h : (frm k g s r d).size - 2 = (fr3 k g s r ++ d).size := by rw [frm_size, ByteArray.size_append, fr3_size]; omega
  rw [h]
  exact ext_left _ _
theorem frm_at {k g s r : Int} {d : ByteArray} (h : Fit k g s r d.size) : at' (frm k g s r d) 0 = k ∧ at' (frm k g s r d) 1 = g ∧ at' (frm k g s r d) 2 = 8 * s + r := by
  obtain ⟨h1, h2, h3, h4, _⟩ := h
  have e : IntKind.i64.wrap (IntKind.i64.wrap (8 * s) + r) = 8 * s + r := by
    rw [wr (8 * s) (by omega) (by omega), wr _ (by omega) (by omega)]
  have l : (frm k g s r d).data.toList = (fr3 k g s r).data.toList ++ (d.data.toList ++ (sumS (fr3 k g s r ++ d)).data.toList) := by
    rw [frm, summed, ByteArray.data_append, ByteArray.data_append, Array.toList_append, Array.toList_append, List.append_assoc]
  have u : ∀ n : Int, 0 ≤ n → n < 256 → ((UInt8.ofNat (IntKind.u8.wrap n).toNat).toNat : Int) = n := fun n h0 h1 => by
    rw [wu8 n h0 h1, UInt8.toNat_ofNat']
    omega
  unfold at' byteAt
  rw [l]
  refine ⟨?_, ?_, ?_⟩
  · exact u k (by omega) (by omega)
  · exact u g (by omega) (by omega)
  · show ((UInt8.ofNat (IntKind.u8.wrap (IntKind.i64.wrap (IntKind.i64.wrap (8 * s) + r))).toNat).toNat : Int) = _
    rw [e]
    exact u _ (by omega) (by omega)
theorem frm_dat (k g s r : Int) (d : ByteArray) : dat (frm k g s r d) = d := by
  have h : (frm k g s r d).size - 2 = 3 + d.size := by rw [frm_size]; omega
  have e : (frm k g s r d).extract 3 ((frm k g s r d).size - 2) = ((frm k g s r d).extract 0 ((frm k g s r d).size - 2)).extract 3 (3 + d.size) := by
    rw [h]
    apply ByteArray.ext
    simp only [ByteArray.data_extract, Array.extract_extract]
    congr 1
    omega
  rw [dat, e, frm_head]
  exact ext_right (fr3 k g s r) d
theorem frm_ok {k g s r : Int} {d : ByteArray} (h : Fit k g s r d.size) : RdOk (frm k g s r d) ∧ rdV (frm k g s r d) = .tuple #[.int .i64 k, .int .i64 g, .int .i64 s, .int .i64 r, .string d, .int .i64 0] := by
  obtain ⟨a0, a1, a2⟩ := frm_at h
  obtain ⟨h1, h2, h3, h4, h5, h6, h7⟩ := id h
  have e1 : (8 * s + r) / 8 = s := by omega
  have e2 : (8 * s + r) % 8 = r := by omega
  have hs := frm_size k g s r d
  have hr : RdOk (frm k g s r d) := by
    refine ⟨by omega, summed_ok _, ?_⟩
    rw [a0, a1, a2, e1, e2, hs, Nat.add_sub_cancel]
    exact h
  refine ⟨hr, ?_⟩
  rw [rdV, if_pos hr, a0, a1, a2, e1, e2, frm_dat]
theorem f3 : E.funcs 3 = some Try.f3 := by kernel_rfl
theorem law3 (k g s r : Int) (d : ByteArray) : Fun E 3 [cv k g s r d] (.bool true) := by
  refine Fun.of f3 rfl (of_decide_eq_true (by kernel_rfl)) rfl ?_
  have c1 := frame10 k g s r d
  have c2 := frame11 k g s r d
  have c3 := sane12
  by_cases h : Fit k g s r d.size
  · rw [frame, if_pos h] at c1 c2
    have c4 := read13 (frm k g s r d)
    rw [(frm_ok h).2] at c4
    unfold frm at c4
    have n1 : (!((summed (fr3 k g s r ++ d)).toList == (summed (fr3 k g s r ++ d)).toList)) = false := by rw [beq_self_eq_true]; rfl
    have n2 : (k == k) = true := beq_self_eq_true _
    have n3 : (g == g) = true := beq_self_eq_true _
    have n4 : (s == s) = true := beq_self_eq_true _
    have n5 : (r == r) = true := beq_self_eq_true _
    have n6 : (d.toList == d.toList) = true := beq_self_eq_true _
    refine Wp.seq ?_
    refine Wp.text ?_
    refine WpOps.made 1 (Value.pointer (some (Addr.mk 0 0 none))) (Blk.mk 23 true [Value.int IntKind.i64 k, Value.int IntKind.i64 g, Value.int IntKind.i64 s, Value.int IntKind.i64 r, Value.string d]) (by kernel_rfl) (by kernel_rfl) (by kernel_rfl) ?_ (fun cf => (by kernel_rfl))
    refine WpOps.keep 2 (Value.bool false) (by kernel_rfl) (by kernel_rfl) (by kernel_rfl) ?_ (fun cf => (by kernel_rfl))
    refine WpOps.nil ?_
    refine thenK_at ?_
    refine Wp.seq ?_
    refine Wp.text ?_
    refine WpOps.keep 13 (Value.pointer (some (Addr.mk 0 0 none))) (by kernel_rfl) (by kernel_rfl) (by kernel_rfl) ?_ (fun cf => (by kernel_rfl))
    refine WpOps.keep 14 (Value.int IntKind.i64 k) (by kernel_rfl) (by kernel_rfl) (by kernel_rfl) ?_ (fun cf => (by kernel_rfl))
    refine WpOps.keep 15 (Value.pointer (some (Addr.mk 0 1 none))) (by kernel_rfl) (by kernel_rfl) (by kernel_rfl) ?_ (fun cf => (by kernel_rfl))
    refine WpOps.keep 16 (Value.int IntKind.i64 g) (by kernel_rfl) (by kernel_rfl) (by kernel_rfl) ?_ (fun cf => (by kernel_rfl))
    refine WpOps.keep 17 (Value.pointer (some (Addr.mk 0 2 none))) (by kernel_rfl) (by kernel_rfl) (by kernel_rfl) ?_ (fun cf => (by kernel_rfl))
    refine WpOps.keep 18 (Value.int IntKind.i64 s) (by kernel_rfl) (by kernel_rfl) (by kernel_rfl) ?_ (fun cf => (by kernel_rfl))
    refine WpOps.keep 19 (Value.pointer (some (Addr.mk 0 3 none))) (by kernel_rfl) (by kernel_rfl) (by kernel_rfl) ?_ (fun cf => (by kernel_rfl))
    refine WpOps.keep 20 (Value.int IntKind.i64 r) (by kernel_rfl) (by kernel_rfl) (by kernel_rfl) ?_ (fun cf => (by kernel_rfl))
    refine WpOps.keep 21 (Value.pointer (some (Addr.mk 0 4 none))) (by kernel_rfl) (by kernel_rfl) (by kernel_rfl) ?_ (fun cf => (by kernel_rfl))
    refine WpOps.keep 22 (Value.string d) (by kernel_rfl) (by kernel_rfl) (by kernel_rfl) ?_ (fun cf => (by kernel_rfl))
    refine WpOps.framed 23 10 [Value.int IntKind.i64 k, Value.int IntKind.i64 g, Value.int IntKind.i64 s, Value.int IntKind.i64 r, Value.string d] (by kernel_rfl) (by kernel_rfl) (by kernel_rfl) (by kernel_rfl) (by kernel_rfl) (fun cf => (by kernel_rfl)) ?_
    refine WpFun.of (c1) ?_
    refine WpOps.keep 12 (Value.tuple #[Value.string (summed (fr3 k g s r ++ d)), Value.int IntKind.i64 0]) (by kernel_rfl) (by kernel_rfl) (by kernel_rfl) ?_ (fun cf => (by kernel_rfl))
    refine WpOps.keep 24 (Value.string (summed (fr3 k g s r ++ d))) (by kernel_rfl) (by kernel_rfl) (by kernel_rfl) ?_ (fun cf => (by kernel_rfl))
    refine WpOps.keep 25 (Value.int IntKind.i64 0) (by kernel_rfl) (by kernel_rfl) (by kernel_rfl) ?_ (fun cf => (by kernel_rfl))
    refine WpOps.keep 3 (Value.string (summed (fr3 k g s r ++ d))) (by kernel_rfl) (by kernel_rfl) (by kernel_rfl) ?_ (fun cf => (by kernel_rfl))
    refine WpOps.keep 4 (Value.int IntKind.i64 0) (by kernel_rfl) (by kernel_rfl) (by kernel_rfl) ?_ (fun cf => (by kernel_rfl))
    refine WpOps.nil ?_
    refine thenK_at ?_
    refine Wp.seq ?_
    refine Wp.text ?_
    refine WpOps.keep 27 (Value.pointer (some (Addr.mk 0 0 none))) (by kernel_rfl) (by kernel_rfl) (by kernel_rfl) ?_ (fun cf => (by kernel_rfl))
    refine WpOps.keep 28 (Value.int IntKind.i64 k) (by kernel_rfl) (by kernel_rfl) (by kernel_rfl) ?_ (fun cf => (by kernel_rfl))
    refine WpOps.keep 29 (Value.pointer (some (Addr.mk 0 1 none))) (by kernel_rfl) (by kernel_rfl) (by kernel_rfl) ?_ (fun cf => (by kernel_rfl))
    refine WpOps.keep 30 (Value.int IntKind.i64 g) (by kernel_rfl) (by kernel_rfl) (by kernel_rfl) ?_ (fun cf => (by kernel_rfl))
    refine WpOps.keep 31 (Value.pointer (some (Addr.mk 0 2 none))) (by kernel_rfl) (by kernel_rfl) (by kernel_rfl) ?_ (fun cf => (by kernel_rfl))
    refine WpOps.keep 32 (Value.int IntKind.i64 s) (by kernel_rfl) (by kernel_rfl) (by kernel_rfl) ?_ (fun cf => (by kernel_rfl))
    refine WpOps.keep 33 (Value.pointer (some (Addr.mk 0 3 none))) (by kernel_rfl) (by kernel_rfl) (by kernel_rfl) ?_ (fun cf => (by kernel_rfl))
    refine WpOps.keep 34 (Value.int IntKind.i64 r) (by kernel_rfl) (by kernel_rfl) (by kernel_rfl) ?_ (fun cf => (by kernel_rfl))
    refine WpOps.keep 35 (Value.pointer (some (Addr.mk 0 4 none))) (by kernel_rfl) (by kernel_rfl) (by kernel_rfl) ?_ (fun cf => (by kernel_rfl))
    refine WpOps.keep 36 (Value.string d) (by kernel_rfl) (by kernel_rfl) (by kernel_rfl) ?_ (fun cf => (by kernel_rfl))
    refine WpOps.framed 37 11 [Value.int IntKind.i64 k, Value.int IntKind.i64 g, Value.int IntKind.i64 s, Value.int IntKind.i64 r, Value.string d] (by kernel_rfl) (by kernel_rfl) (by kernel_rfl) (by kernel_rfl) (by kernel_rfl) (fun cf => (by kernel_rfl)) ?_
    refine WpFun.of (c2) ?_
    refine WpOps.keep 26 (Value.tuple #[Value.string (summed (fr3 k g s r ++ d)), Value.int IntKind.i64 0]) (by kernel_rfl) (by kernel_rfl) (by kernel_rfl) ?_ (fun cf => (by kernel_rfl))
    refine WpOps.keep 38 (Value.string (summed (fr3 k g s r ++ d))) (by kernel_rfl) (by kernel_rfl) (by kernel_rfl) ?_ (fun cf => (by kernel_rfl))
    refine WpOps.keep 39 (Value.int IntKind.i64 0) (by kernel_rfl) (by kernel_rfl) (by kernel_rfl) ?_ (fun cf => (by kernel_rfl))
    refine WpOps.keep 5 (Value.string (summed (fr3 k g s r ++ d))) (by kernel_rfl) (by kernel_rfl) (by kernel_rfl) ?_ (fun cf => (by kernel_rfl))
    refine WpOps.keep 6 (Value.int IntKind.i64 0) (by kernel_rfl) (by kernel_rfl) (by kernel_rfl) ?_ (fun cf => (by kernel_rfl))
    refine WpOps.nil ?_
    refine thenK_at ?_
    refine Wp.seq ?_
    refine Wp.seq ?_
    refine Wp.text ?_
    refine WpOps.keep 40 (Value.string (summed (fr3 k g s r ++ d))) (by kernel_rfl) (by kernel_rfl) (by kernel_rfl) ?_ (fun cf => (by kernel_rfl))
    refine WpOps.keep 41 (Value.string (summed (fr3 k g s r ++ d))) (by kernel_rfl) (by kernel_rfl) (by kernel_rfl) ?_ (fun cf => (by kernel_rfl))
    refine WpOps.keep 42 (Value.bool false) (by kernel_rfl) (by kernel_rfl) (by kernel_rfl) ?_ (fun cf => by_fact n1 ((by kernel_rfl)))
    refine WpOps.keep 43 (Value.bool false) (by kernel_rfl) (by kernel_rfl) (by kernel_rfl) ?_ (fun cf => (by kernel_rfl))
    refine WpOps.keep 44 (Value.int IntKind.i64 0) (by kernel_rfl) (by kernel_rfl) (by kernel_rfl) ?_ (fun cf => (by kernel_rfl))
    refine WpOps.keep 45 (Value.int IntKind.i64 0) (by kernel_rfl) (by kernel_rfl) (by kernel_rfl) ?_ (fun cf => (by kernel_rfl))
    refine WpOps.keep 46 (Value.bool false) (by kernel_rfl) (by kernel_rfl) (by kernel_rfl) ?_ (fun cf => (by kernel_rfl))
    refine WpOps.keep 47 (Value.bool false) (by kernel_rfl) (by kernel_rfl) (by kernel_rfl) ?_ (fun cf => (by kernel_rfl))
    refine WpOps.nil ?_
    refine thenK_at ?_
    refine Wp.off (by kernel_rfl) ?_
    refine Wp.skip ?_
    refine thenK_at ?_
    refine Wp.seq ?_
    refine Wp.seq ?_
    refine Wp.text ?_
    refine WpOps.keep 48 (Value.int IntKind.i64 0) (by kernel_rfl) (by kernel_rfl) (by kernel_rfl) ?_ (fun cf => (by kernel_rfl))
    refine WpOps.keep 49 (Value.bool false) (by kernel_rfl) (by kernel_rfl) (by kernel_rfl) ?_ (fun cf => (by kernel_rfl))
    refine WpOps.nil ?_
    refine thenK_at ?_
    refine Wp.off (by kernel_rfl) ?_
    refine Wp.skip ?_
    refine thenK_at ?_
    refine Wp.seq ?_
    refine Wp.text ?_
    refine WpOps.keep 52 (Value.string (summed (fr3 k g s r ++ d))) (by kernel_rfl) (by kernel_rfl) (by kernel_rfl) ?_ (fun cf => (by kernel_rfl))
    refine WpOps.framed 53 13 [Value.string (summed (fr3 k g s r ++ d))] (by kernel_rfl) (by kernel_rfl) (by kernel_rfl) (by kernel_rfl) (by kernel_rfl) (fun cf => (by kernel_rfl)) ?_
    refine WpFun.of (c4) ?_
    refine WpOps.keep 51 (Value.tuple #[Value.int IntKind.i64 k, Value.int IntKind.i64 g, Value.int IntKind.i64 s, Value.int IntKind.i64 r, Value.string d, Value.int IntKind.i64 0]) (by kernel_rfl) (by kernel_rfl) (by kernel_rfl) ?_ (fun cf => (by kernel_rfl))
    refine WpOps.keep 54 (Value.int IntKind.i64 k) (by kernel_rfl) (by kernel_rfl) (by kernel_rfl) ?_ (fun cf => (by kernel_rfl))
    refine WpOps.keep 55 (Value.int IntKind.i64 g) (by kernel_rfl) (by kernel_rfl) (by kernel_rfl) ?_ (fun cf => (by kernel_rfl))
    refine WpOps.keep 56 (Value.int IntKind.i64 s) (by kernel_rfl) (by kernel_rfl) (by kernel_rfl) ?_ (fun cf => (by kernel_rfl))
    refine WpOps.keep 57 (Value.int IntKind.i64 r) (by kernel_rfl) (by kernel_rfl) (by kernel_rfl) ?_ (fun cf => (by kernel_rfl))
    refine WpOps.keep 58 (Value.string d) (by kernel_rfl) (by kernel_rfl) (by kernel_rfl) ?_ (fun cf => (by kernel_rfl))
    refine WpOps.keep 59 (Value.int IntKind.i64 0) (by kernel_rfl) (by kernel_rfl) (by kernel_rfl) ?_ (fun cf => (by kernel_rfl))
    refine WpOps.keep 7 (Value.int IntKind.i64 k) (by kernel_rfl) (by kernel_rfl) (by kernel_rfl) ?_ (fun cf => (by kernel_rfl))
    refine WpOps.keep 8 (Value.int IntKind.i64 g) (by kernel_rfl) (by kernel_rfl) (by kernel_rfl) ?_ (fun cf => (by kernel_rfl))
    refine WpOps.keep 9 (Value.int IntKind.i64 s) (by kernel_rfl) (by kernel_rfl) (by kernel_rfl) ?_ (fun cf => (by kernel_rfl))
    refine WpOps.keep 10 (Value.int IntKind.i64 r) (by kernel_rfl) (by kernel_rfl) (by kernel_rfl) ?_ (fun cf => (by kernel_rfl))
    refine WpOps.keep 11 (Value.string d) (by kernel_rfl) (by kernel_rfl) (by kernel_rfl) ?_ (fun cf => (by kernel_rfl))
    refine WpOps.keep 4 (Value.int IntKind.i64 0) (by kernel_rfl) (by kernel_rfl) (by kernel_rfl) ?_ (fun cf => (by kernel_rfl))
    refine WpOps.nil ?_
    refine thenK_at ?_
    refine Wp.seq ?_
    refine Wp.text ?_
    refine WpOps.keep 60 (Value.int IntKind.i64 0) (by kernel_rfl) (by kernel_rfl) (by kernel_rfl) ?_ (fun cf => (by kernel_rfl))
    refine WpOps.keep 61 (Value.bool true) (by kernel_rfl) (by kernel_rfl) (by kernel_rfl) ?_ (fun cf => (by kernel_rfl))
    refine WpOps.keep 62 (Value.bool true) (by kernel_rfl) (by kernel_rfl) (by kernel_rfl) ?_ (fun cf => (by kernel_rfl))
    refine WpOps.keep 63 (Value.int IntKind.i64 k) (by kernel_rfl) (by kernel_rfl) (by kernel_rfl) ?_ (fun cf => (by kernel_rfl))
    refine WpOps.keep 64 (Value.pointer (some (Addr.mk 0 0 none))) (by kernel_rfl) (by kernel_rfl) (by kernel_rfl) ?_ (fun cf => (by kernel_rfl))
    refine WpOps.keep 65 (Value.int IntKind.i64 k) (by kernel_rfl) (by kernel_rfl) (by kernel_rfl) ?_ (fun cf => (by kernel_rfl))
    refine WpOps.keep 66 (Value.bool true) (by kernel_rfl) (by kernel_rfl) (by kernel_rfl) ?_ (fun cf => by_fact n2 ((by kernel_rfl)))
    refine WpOps.keep 67 (Value.bool true) (by kernel_rfl) (by kernel_rfl) (by kernel_rfl) ?_ (fun cf => (by kernel_rfl))
    refine WpOps.keep 68 (Value.bool true) (by kernel_rfl) (by kernel_rfl) (by kernel_rfl) ?_ (fun cf => (by kernel_rfl))
    refine WpOps.keep 69 (Value.int IntKind.i64 g) (by kernel_rfl) (by kernel_rfl) (by kernel_rfl) ?_ (fun cf => (by kernel_rfl))
    refine WpOps.keep 70 (Value.pointer (some (Addr.mk 0 1 none))) (by kernel_rfl) (by kernel_rfl) (by kernel_rfl) ?_ (fun cf => (by kernel_rfl))
    refine WpOps.keep 71 (Value.int IntKind.i64 g) (by kernel_rfl) (by kernel_rfl) (by kernel_rfl) ?_ (fun cf => (by kernel_rfl))
    refine WpOps.keep 72 (Value.bool true) (by kernel_rfl) (by kernel_rfl) (by kernel_rfl) ?_ (fun cf => by_fact n3 ((by kernel_rfl)))
    refine WpOps.keep 73 (Value.bool true) (by kernel_rfl) (by kernel_rfl) (by kernel_rfl) ?_ (fun cf => (by kernel_rfl))
    refine WpOps.keep 74 (Value.bool true) (by kernel_rfl) (by kernel_rfl) (by kernel_rfl) ?_ (fun cf => (by kernel_rfl))
    refine WpOps.keep 75 (Value.int IntKind.i64 s) (by kernel_rfl) (by kernel_rfl) (by kernel_rfl) ?_ (fun cf => (by kernel_rfl))
    refine WpOps.keep 76 (Value.pointer (some (Addr.mk 0 2 none))) (by kernel_rfl) (by kernel_rfl) (by kernel_rfl) ?_ (fun cf => (by kernel_rfl))
    refine WpOps.keep 77 (Value.int IntKind.i64 s) (by kernel_rfl) (by kernel_rfl) (by kernel_rfl) ?_ (fun cf => (by kernel_rfl))
    refine WpOps.keep 78 (Value.bool true) (by kernel_rfl) (by kernel_rfl) (by kernel_rfl) ?_ (fun cf => by_fact n4 ((by kernel_rfl)))
    refine WpOps.keep 79 (Value.bool true) (by kernel_rfl) (by kernel_rfl) (by kernel_rfl) ?_ (fun cf => (by kernel_rfl))
    refine WpOps.keep 80 (Value.bool true) (by kernel_rfl) (by kernel_rfl) (by kernel_rfl) ?_ (fun cf => (by kernel_rfl))
    refine WpOps.keep 81 (Value.int IntKind.i64 r) (by kernel_rfl) (by kernel_rfl) (by kernel_rfl) ?_ (fun cf => (by kernel_rfl))
    refine WpOps.keep 82 (Value.pointer (some (Addr.mk 0 3 none))) (by kernel_rfl) (by kernel_rfl) (by kernel_rfl) ?_ (fun cf => (by kernel_rfl))
    refine WpOps.keep 83 (Value.int IntKind.i64 r) (by kernel_rfl) (by kernel_rfl) (by kernel_rfl) ?_ (fun cf => (by kernel_rfl))
    refine WpOps.keep 84 (Value.bool true) (by kernel_rfl) (by kernel_rfl) (by kernel_rfl) ?_ (fun cf => by_fact n5 ((by kernel_rfl)))
    refine WpOps.keep 85 (Value.bool true) (by kernel_rfl) (by kernel_rfl) (by kernel_rfl) ?_ (fun cf => (by kernel_rfl))
    refine WpOps.keep 86 (Value.bool true) (by kernel_rfl) (by kernel_rfl) (by kernel_rfl) ?_ (fun cf => (by kernel_rfl))
    refine WpOps.keep 87 (Value.string d) (by kernel_rfl) (by kernel_rfl) (by kernel_rfl) ?_ (fun cf => (by kernel_rfl))
    refine WpOps.keep 88 (Value.pointer (some (Addr.mk 0 4 none))) (by kernel_rfl) (by kernel_rfl) (by kernel_rfl) ?_ (fun cf => (by kernel_rfl))
    refine WpOps.keep 89 (Value.string d) (by kernel_rfl) (by kernel_rfl) (by kernel_rfl) ?_ (fun cf => (by kernel_rfl))
    refine WpOps.keep 90 (Value.bool true) (by kernel_rfl) (by kernel_rfl) (by kernel_rfl) ?_ (fun cf => by_fact n6 ((by kernel_rfl)))
    refine WpOps.keep 91 (Value.bool true) (by kernel_rfl) (by kernel_rfl) (by kernel_rfl) ?_ (fun cf => (by kernel_rfl))
    refine WpOps.keep 92 (Value.bool true) (by kernel_rfl) (by kernel_rfl) (by kernel_rfl) ?_ (fun cf => (by kernel_rfl))
    refine WpOps.framed 93 12 [] (by kernel_rfl) (by kernel_rfl) (by kernel_rfl) (by kernel_rfl) (by kernel_rfl) (fun cf => (by kernel_rfl)) ?_
    refine WpFun.of (c3) ?_
    refine WpOps.keep 94 (Value.bool true) (by kernel_rfl) (by kernel_rfl) (by kernel_rfl) ?_ (fun cf => (by kernel_rfl))
    refine WpOps.keep 2 (Value.bool true) (by kernel_rfl) (by kernel_rfl) (by kernel_rfl) ?_ (fun cf => (by kernel_rfl))
    refine WpOps.nil ?_
    refine thenK_at ?_
    refine Wp.ret ?_
    refine endK_retn [Value.bool true] (Value.bool true) (by kernel_rfl) (by kernel_rfl) ?_
    kernel_rfl
  · rw [frame, if_neg h] at c1 c2
    refine Wp.seq ?_
    refine Wp.text ?_
    refine WpOps.made 1 (Value.pointer (some (Addr.mk 0 0 none))) (Blk.mk 23 true [Value.int IntKind.i64 k, Value.int IntKind.i64 g, Value.int IntKind.i64 s, Value.int IntKind.i64 r, Value.string d]) (by kernel_rfl) (by kernel_rfl) (by kernel_rfl) ?_ (fun cf => (by kernel_rfl))
    refine WpOps.keep 2 (Value.bool false) (by kernel_rfl) (by kernel_rfl) (by kernel_rfl) ?_ (fun cf => (by kernel_rfl))
    refine WpOps.nil ?_
    refine thenK_at ?_
    refine Wp.seq ?_
    refine Wp.text ?_
    refine WpOps.keep 13 (Value.pointer (some (Addr.mk 0 0 none))) (by kernel_rfl) (by kernel_rfl) (by kernel_rfl) ?_ (fun cf => (by kernel_rfl))
    refine WpOps.keep 14 (Value.int IntKind.i64 k) (by kernel_rfl) (by kernel_rfl) (by kernel_rfl) ?_ (fun cf => (by kernel_rfl))
    refine WpOps.keep 15 (Value.pointer (some (Addr.mk 0 1 none))) (by kernel_rfl) (by kernel_rfl) (by kernel_rfl) ?_ (fun cf => (by kernel_rfl))
    refine WpOps.keep 16 (Value.int IntKind.i64 g) (by kernel_rfl) (by kernel_rfl) (by kernel_rfl) ?_ (fun cf => (by kernel_rfl))
    refine WpOps.keep 17 (Value.pointer (some (Addr.mk 0 2 none))) (by kernel_rfl) (by kernel_rfl) (by kernel_rfl) ?_ (fun cf => (by kernel_rfl))
    refine WpOps.keep 18 (Value.int IntKind.i64 s) (by kernel_rfl) (by kernel_rfl) (by kernel_rfl) ?_ (fun cf => (by kernel_rfl))
    refine WpOps.keep 19 (Value.pointer (some (Addr.mk 0 3 none))) (by kernel_rfl) (by kernel_rfl) (by kernel_rfl) ?_ (fun cf => (by kernel_rfl))
    refine WpOps.keep 20 (Value.int IntKind.i64 r) (by kernel_rfl) (by kernel_rfl) (by kernel_rfl) ?_ (fun cf => (by kernel_rfl))
    refine WpOps.keep 21 (Value.pointer (some (Addr.mk 0 4 none))) (by kernel_rfl) (by kernel_rfl) (by kernel_rfl) ?_ (fun cf => (by kernel_rfl))
    refine WpOps.keep 22 (Value.string d) (by kernel_rfl) (by kernel_rfl) (by kernel_rfl) ?_ (fun cf => (by kernel_rfl))
    refine WpOps.framed 23 10 [Value.int IntKind.i64 k, Value.int IntKind.i64 g, Value.int IntKind.i64 s, Value.int IntKind.i64 r, Value.string d] (by kernel_rfl) (by kernel_rfl) (by kernel_rfl) (by kernel_rfl) (by kernel_rfl) (fun cf => (by kernel_rfl)) ?_
    refine WpFun.of (c1) ?_
    refine WpOps.keep 12 (Value.tuple #[Value.string ByteArray.empty, Value.int IntKind.i64 1]) (by kernel_rfl) (by kernel_rfl) (by kernel_rfl) ?_ (fun cf => (by kernel_rfl))
    refine WpOps.keep 24 (Value.string ByteArray.empty) (by kernel_rfl) (by kernel_rfl) (by kernel_rfl) ?_ (fun cf => (by kernel_rfl))
    refine WpOps.keep 25 (Value.int IntKind.i64 1) (by kernel_rfl) (by kernel_rfl) (by kernel_rfl) ?_ (fun cf => (by kernel_rfl))
    refine WpOps.keep 3 (Value.string ByteArray.empty) (by kernel_rfl) (by kernel_rfl) (by kernel_rfl) ?_ (fun cf => (by kernel_rfl))
    refine WpOps.keep 4 (Value.int IntKind.i64 1) (by kernel_rfl) (by kernel_rfl) (by kernel_rfl) ?_ (fun cf => (by kernel_rfl))
    refine WpOps.nil ?_
    refine thenK_at ?_
    refine Wp.seq ?_
    refine Wp.text ?_
    refine WpOps.keep 27 (Value.pointer (some (Addr.mk 0 0 none))) (by kernel_rfl) (by kernel_rfl) (by kernel_rfl) ?_ (fun cf => (by kernel_rfl))
    refine WpOps.keep 28 (Value.int IntKind.i64 k) (by kernel_rfl) (by kernel_rfl) (by kernel_rfl) ?_ (fun cf => (by kernel_rfl))
    refine WpOps.keep 29 (Value.pointer (some (Addr.mk 0 1 none))) (by kernel_rfl) (by kernel_rfl) (by kernel_rfl) ?_ (fun cf => (by kernel_rfl))
    refine WpOps.keep 30 (Value.int IntKind.i64 g) (by kernel_rfl) (by kernel_rfl) (by kernel_rfl) ?_ (fun cf => (by kernel_rfl))
    refine WpOps.keep 31 (Value.pointer (some (Addr.mk 0 2 none))) (by kernel_rfl) (by kernel_rfl) (by kernel_rfl) ?_ (fun cf => (by kernel_rfl))
    refine WpOps.keep 32 (Value.int IntKind.i64 s) (by kernel_rfl) (by kernel_rfl) (by kernel_rfl) ?_ (fun cf => (by kernel_rfl))
    refine WpOps.keep 33 (Value.pointer (some (Addr.mk 0 3 none))) (by kernel_rfl) (by kernel_rfl) (by kernel_rfl) ?_ (fun cf => (by kernel_rfl))
    refine WpOps.keep 34 (Value.int IntKind.i64 r) (by kernel_rfl) (by kernel_rfl) (by kernel_rfl) ?_ (fun cf => (by kernel_rfl))
    refine WpOps.keep 35 (Value.pointer (some (Addr.mk 0 4 none))) (by kernel_rfl) (by kernel_rfl) (by kernel_rfl) ?_ (fun cf => (by kernel_rfl))
    refine WpOps.keep 36 (Value.string d) (by kernel_rfl) (by kernel_rfl) (by kernel_rfl) ?_ (fun cf => (by kernel_rfl))
    refine WpOps.framed 37 11 [Value.int IntKind.i64 k, Value.int IntKind.i64 g, Value.int IntKind.i64 s, Value.int IntKind.i64 r, Value.string d] (by kernel_rfl) (by kernel_rfl) (by kernel_rfl) (by kernel_rfl) (by kernel_rfl) (fun cf => (by kernel_rfl)) ?_
    refine WpFun.of (c2) ?_
    refine WpOps.keep 26 (Value.tuple #[Value.string ByteArray.empty, Value.int IntKind.i64 1]) (by kernel_rfl) (by kernel_rfl) (by kernel_rfl) ?_ (fun cf => (by kernel_rfl))
    refine WpOps.keep 38 (Value.string ByteArray.empty) (by kernel_rfl) (by kernel_rfl) (by kernel_rfl) ?_ (fun cf => (by kernel_rfl))
    refine WpOps.keep 39 (Value.int IntKind.i64 1) (by kernel_rfl) (by kernel_rfl) (by kernel_rfl) ?_ (fun cf => (by kernel_rfl))
    refine WpOps.keep 5 (Value.string ByteArray.empty) (by kernel_rfl) (by kernel_rfl) (by kernel_rfl) ?_ (fun cf => (by kernel_rfl))
    refine WpOps.keep 6 (Value.int IntKind.i64 1) (by kernel_rfl) (by kernel_rfl) (by kernel_rfl) ?_ (fun cf => (by kernel_rfl))
    refine WpOps.nil ?_
    refine thenK_at ?_
    refine Wp.seq ?_
    refine Wp.seq ?_
    refine Wp.text ?_
    refine WpOps.keep 40 (Value.string ByteArray.empty) (by kernel_rfl) (by kernel_rfl) (by kernel_rfl) ?_ (fun cf => (by kernel_rfl))
    refine WpOps.keep 41 (Value.string ByteArray.empty) (by kernel_rfl) (by kernel_rfl) (by kernel_rfl) ?_ (fun cf => (by kernel_rfl))
    refine WpOps.keep 42 (Value.bool false) (by kernel_rfl) (by kernel_rfl) (by kernel_rfl) ?_ (fun cf => (by kernel_rfl))
    refine WpOps.keep 43 (Value.bool false) (by kernel_rfl) (by kernel_rfl) (by kernel_rfl) ?_ (fun cf => (by kernel_rfl))
    refine WpOps.keep 44 (Value.int IntKind.i64 1) (by kernel_rfl) (by kernel_rfl) (by kernel_rfl) ?_ (fun cf => (by kernel_rfl))
    refine WpOps.keep 45 (Value.int IntKind.i64 1) (by kernel_rfl) (by kernel_rfl) (by kernel_rfl) ?_ (fun cf => (by kernel_rfl))
    refine WpOps.keep 46 (Value.bool false) (by kernel_rfl) (by kernel_rfl) (by kernel_rfl) ?_ (fun cf => (by kernel_rfl))
    refine WpOps.keep 47 (Value.bool false) (by kernel_rfl) (by kernel_rfl) (by kernel_rfl) ?_ (fun cf => (by kernel_rfl))
    refine WpOps.nil ?_
    refine thenK_at ?_
    refine Wp.off (by kernel_rfl) ?_
    refine Wp.skip ?_
    refine thenK_at ?_
    refine Wp.seq ?_
    refine Wp.seq ?_
    refine Wp.text ?_
    refine WpOps.keep 48 (Value.int IntKind.i64 1) (by kernel_rfl) (by kernel_rfl) (by kernel_rfl) ?_ (fun cf => (by kernel_rfl))
    refine WpOps.keep 49 (Value.bool true) (by kernel_rfl) (by kernel_rfl) (by kernel_rfl) ?_ (fun cf => (by kernel_rfl))
    refine WpOps.nil ?_
    refine thenK_at ?_
    refine Wp.on (by kernel_rfl) ?_
    refine Wp.seq ?_
    refine Wp.text ?_
    refine WpOps.framed 50 12 [] (by kernel_rfl) (by kernel_rfl) (by kernel_rfl) (by kernel_rfl) (by kernel_rfl) (fun cf => (by kernel_rfl)) ?_
    refine WpFun.of (c3) ?_
    refine WpOps.keep 2 (Value.bool true) (by kernel_rfl) (by kernel_rfl) (by kernel_rfl) ?_ (fun cf => (by kernel_rfl))
    refine WpOps.nil ?_
    refine thenK_at ?_
    refine Wp.ret ?_
    refine thenK_ret ?_
    refine endK_retn [Value.bool true] (Value.bool true) (by kernel_rfl) (by kernel_rfl) ?_
    kernel_rfl
theorem f4 : E.funcs 4 = some Try.f4 := by kernel_rfl
theorem law4 (b : ByteArray) : Fun E 4 [.string b] (.bool true) := by
  refine Fun.of f4 rfl (of_decide_eq_true (by kernel_rfl)) rfl ?_
  have c1 := read13 b
  have c2 := read14 b
  have c3 := sane12
  by_cases h : RdOk b
  · rw [rdV, if_pos h] at c1 c2
    have n2 : (at' b 0 == at' b 0) = true := beq_self_eq_true _
    have n3 : (at' b 1 == at' b 1) = true := beq_self_eq_true _
    have n4 : (at' b 2 / 8 == at' b 2 / 8) = true := beq_self_eq_true _
    have n5 : (at' b 2 % 8 == at' b 2 % 8) = true := beq_self_eq_true _
    have n6 : ((dat b).toList == (dat b).toList) = true := beq_self_eq_true _
    refine Wp.seq ?_
    refine Wp.text ?_
    refine WpOps.keep 2 (Value.bool false) (by kernel_rfl) (by kernel_rfl) (by kernel_rfl) ?_ (fun cf => (by kernel_rfl))
    refine WpOps.nil ?_
    refine thenK_at ?_
    refine Wp.seq ?_
    refine Wp.text ?_
    refine WpOps.keep 16 (Value.string b) (by kernel_rfl) (by kernel_rfl) (by kernel_rfl) ?_ (fun cf => (by kernel_rfl))
    refine WpOps.framed 17 13 [Value.string b] (by kernel_rfl) (by kernel_rfl) (by kernel_rfl) (by kernel_rfl) (by kernel_rfl) (fun cf => (by kernel_rfl)) ?_
    refine WpFun.of (c1) ?_
    refine WpOps.keep 15 (Value.tuple #[Value.int IntKind.i64 (at' b 0), Value.int IntKind.i64 (at' b 1), Value.int IntKind.i64 (at' b 2 / 8), Value.int IntKind.i64 (at' b 2 % 8), Value.string (dat b), Value.int IntKind.i64 0]) (by kernel_rfl) (by kernel_rfl) (by kernel_rfl) ?_ (fun cf => (by kernel_rfl))
    refine WpOps.keep 18 (Value.int IntKind.i64 (at' b 0)) (by kernel_rfl) (by kernel_rfl) (by kernel_rfl) ?_ (fun cf => (by kernel_rfl))
    refine WpOps.keep 19 (Value.int IntKind.i64 (at' b 1)) (by kernel_rfl) (by kernel_rfl) (by kernel_rfl) ?_ (fun cf => (by kernel_rfl))
    refine WpOps.keep 20 (Value.int IntKind.i64 (at' b 2 / 8)) (by kernel_rfl) (by kernel_rfl) (by kernel_rfl) ?_ (fun cf => (by kernel_rfl))
    refine WpOps.keep 21 (Value.int IntKind.i64 (at' b 2 % 8)) (by kernel_rfl) (by kernel_rfl) (by kernel_rfl) ?_ (fun cf => (by kernel_rfl))
    refine WpOps.keep 22 (Value.string (dat b)) (by kernel_rfl) (by kernel_rfl) (by kernel_rfl) ?_ (fun cf => (by kernel_rfl))
    refine WpOps.keep 23 (Value.int IntKind.i64 0) (by kernel_rfl) (by kernel_rfl) (by kernel_rfl) ?_ (fun cf => (by kernel_rfl))
    refine WpOps.keep 3 (Value.int IntKind.i64 (at' b 0)) (by kernel_rfl) (by kernel_rfl) (by kernel_rfl) ?_ (fun cf => (by kernel_rfl))
    refine WpOps.keep 4 (Value.int IntKind.i64 (at' b 1)) (by kernel_rfl) (by kernel_rfl) (by kernel_rfl) ?_ (fun cf => (by kernel_rfl))
    refine WpOps.keep 5 (Value.int IntKind.i64 (at' b 2 / 8)) (by kernel_rfl) (by kernel_rfl) (by kernel_rfl) ?_ (fun cf => (by kernel_rfl))
    refine WpOps.keep 6 (Value.int IntKind.i64 (at' b 2 % 8)) (by kernel_rfl) (by kernel_rfl) (by kernel_rfl) ?_ (fun cf => (by kernel_rfl))
    refine WpOps.keep 7 (Value.string (dat b)) (by kernel_rfl) (by kernel_rfl) (by kernel_rfl) ?_ (fun cf => (by kernel_rfl))
    refine WpOps.keep 8 (Value.int IntKind.i64 0) (by kernel_rfl) (by kernel_rfl) (by kernel_rfl) ?_ (fun cf => (by kernel_rfl))
    refine WpOps.nil ?_
    refine thenK_at ?_
    refine Wp.seq ?_
    refine Wp.text ?_
    refine WpOps.keep 25 (Value.string b) (by kernel_rfl) (by kernel_rfl) (by kernel_rfl) ?_ (fun cf => (by kernel_rfl))
    refine WpOps.framed 26 14 [Value.string b] (by kernel_rfl) (by kernel_rfl) (by kernel_rfl) (by kernel_rfl) (by kernel_rfl) (fun cf => (by kernel_rfl)) ?_
    refine WpFun.of (c2) ?_
    refine WpOps.keep 24 (Value.tuple #[Value.int IntKind.i64 (at' b 0), Value.int IntKind.i64 (at' b 1), Value.int IntKind.i64 (at' b 2 / 8), Value.int IntKind.i64 (at' b 2 % 8), Value.string (dat b), Value.int IntKind.i64 0]) (by kernel_rfl) (by kernel_rfl) (by kernel_rfl) ?_ (fun cf => (by kernel_rfl))
    refine WpOps.keep 27 (Value.int IntKind.i64 (at' b 0)) (by kernel_rfl) (by kernel_rfl) (by kernel_rfl) ?_ (fun cf => (by kernel_rfl))
    refine WpOps.keep 28 (Value.int IntKind.i64 (at' b 1)) (by kernel_rfl) (by kernel_rfl) (by kernel_rfl) ?_ (fun cf => (by kernel_rfl))
    refine WpOps.keep 29 (Value.int IntKind.i64 (at' b 2 / 8)) (by kernel_rfl) (by kernel_rfl) (by kernel_rfl) ?_ (fun cf => (by kernel_rfl))
    refine WpOps.keep 30 (Value.int IntKind.i64 (at' b 2 % 8)) (by kernel_rfl) (by kernel_rfl) (by kernel_rfl) ?_ (fun cf => (by kernel_rfl))
    refine WpOps.keep 31 (Value.string (dat b)) (by kernel_rfl) (by kernel_rfl) (by kernel_rfl) ?_ (fun cf => (by kernel_rfl))
    refine WpOps.keep 32 (Value.int IntKind.i64 0) (by kernel_rfl) (by kernel_rfl) (by kernel_rfl) ?_ (fun cf => (by kernel_rfl))
    refine WpOps.keep 9 (Value.int IntKind.i64 (at' b 0)) (by kernel_rfl) (by kernel_rfl) (by kernel_rfl) ?_ (fun cf => (by kernel_rfl))
    refine WpOps.keep 10 (Value.int IntKind.i64 (at' b 1)) (by kernel_rfl) (by kernel_rfl) (by kernel_rfl) ?_ (fun cf => (by kernel_rfl))
    refine WpOps.keep 11 (Value.int IntKind.i64 (at' b 2 / 8)) (by kernel_rfl) (by kernel_rfl) (by kernel_rfl) ?_ (fun cf => (by kernel_rfl))
    refine WpOps.keep 12 (Value.int IntKind.i64 (at' b 2 % 8)) (by kernel_rfl) (by kernel_rfl) (by kernel_rfl) ?_ (fun cf => (by kernel_rfl))
    refine WpOps.keep 13 (Value.string (dat b)) (by kernel_rfl) (by kernel_rfl) (by kernel_rfl) ?_ (fun cf => (by kernel_rfl))
    refine WpOps.keep 14 (Value.int IntKind.i64 0) (by kernel_rfl) (by kernel_rfl) (by kernel_rfl) ?_ (fun cf => (by kernel_rfl))
    refine WpOps.nil ?_
    refine thenK_at ?_
    refine Wp.seq ?_
    refine Wp.text ?_
    refine WpOps.keep 33 (Value.int IntKind.i64 (at' b 0)) (by kernel_rfl) (by kernel_rfl) (by kernel_rfl) ?_ (fun cf => (by kernel_rfl))
    refine WpOps.keep 34 (Value.int IntKind.i64 (at' b 0)) (by kernel_rfl) (by kernel_rfl) (by kernel_rfl) ?_ (fun cf => (by kernel_rfl))
    refine WpOps.keep 35 (Value.bool true) (by kernel_rfl) (by kernel_rfl) (by kernel_rfl) ?_ (fun cf => by_fact n2 ((by kernel_rfl)))
    refine WpOps.keep 36 (Value.bool true) (by kernel_rfl) (by kernel_rfl) (by kernel_rfl) ?_ (fun cf => (by kernel_rfl))
    refine WpOps.keep 37 (Value.int IntKind.i64 (at' b 1)) (by kernel_rfl) (by kernel_rfl) (by kernel_rfl) ?_ (fun cf => (by kernel_rfl))
    refine WpOps.keep 38 (Value.int IntKind.i64 (at' b 1)) (by kernel_rfl) (by kernel_rfl) (by kernel_rfl) ?_ (fun cf => (by kernel_rfl))
    refine WpOps.keep 39 (Value.bool true) (by kernel_rfl) (by kernel_rfl) (by kernel_rfl) ?_ (fun cf => by_fact n3 ((by kernel_rfl)))
    refine WpOps.keep 40 (Value.bool true) (by kernel_rfl) (by kernel_rfl) (by kernel_rfl) ?_ (fun cf => (by kernel_rfl))
    refine WpOps.keep 41 (Value.bool true) (by kernel_rfl) (by kernel_rfl) (by kernel_rfl) ?_ (fun cf => (by kernel_rfl))
    refine WpOps.keep 42 (Value.int IntKind.i64 (at' b 2 / 8)) (by kernel_rfl) (by kernel_rfl) (by kernel_rfl) ?_ (fun cf => (by kernel_rfl))
    refine WpOps.keep 43 (Value.int IntKind.i64 (at' b 2 / 8)) (by kernel_rfl) (by kernel_rfl) (by kernel_rfl) ?_ (fun cf => (by kernel_rfl))
    refine WpOps.keep 44 (Value.bool true) (by kernel_rfl) (by kernel_rfl) (by kernel_rfl) ?_ (fun cf => by_fact n4 ((by kernel_rfl)))
    refine WpOps.keep 45 (Value.bool true) (by kernel_rfl) (by kernel_rfl) (by kernel_rfl) ?_ (fun cf => (by kernel_rfl))
    refine WpOps.keep 46 (Value.bool true) (by kernel_rfl) (by kernel_rfl) (by kernel_rfl) ?_ (fun cf => (by kernel_rfl))
    refine WpOps.keep 47 (Value.int IntKind.i64 (at' b 2 % 8)) (by kernel_rfl) (by kernel_rfl) (by kernel_rfl) ?_ (fun cf => (by kernel_rfl))
    refine WpOps.keep 48 (Value.int IntKind.i64 (at' b 2 % 8)) (by kernel_rfl) (by kernel_rfl) (by kernel_rfl) ?_ (fun cf => (by kernel_rfl))
    refine WpOps.keep 49 (Value.bool true) (by kernel_rfl) (by kernel_rfl) (by kernel_rfl) ?_ (fun cf => by_fact n5 ((by kernel_rfl)))
    refine WpOps.keep 50 (Value.bool true) (by kernel_rfl) (by kernel_rfl) (by kernel_rfl) ?_ (fun cf => (by kernel_rfl))
    refine WpOps.keep 51 (Value.bool true) (by kernel_rfl) (by kernel_rfl) (by kernel_rfl) ?_ (fun cf => (by kernel_rfl))
    refine WpOps.keep 52 (Value.string (dat b)) (by kernel_rfl) (by kernel_rfl) (by kernel_rfl) ?_ (fun cf => (by kernel_rfl))
    refine WpOps.keep 53 (Value.string (dat b)) (by kernel_rfl) (by kernel_rfl) (by kernel_rfl) ?_ (fun cf => (by kernel_rfl))
    refine WpOps.keep 54 (Value.bool true) (by kernel_rfl) (by kernel_rfl) (by kernel_rfl) ?_ (fun cf => by_fact n6 ((by kernel_rfl)))
    refine WpOps.keep 55 (Value.bool true) (by kernel_rfl) (by kernel_rfl) (by kernel_rfl) ?_ (fun cf => (by kernel_rfl))
    refine WpOps.keep 56 (Value.bool true) (by kernel_rfl) (by kernel_rfl) (by kernel_rfl) ?_ (fun cf => (by kernel_rfl))
    refine WpOps.keep 57 (Value.int IntKind.i64 0) (by kernel_rfl) (by kernel_rfl) (by kernel_rfl) ?_ (fun cf => (by kernel_rfl))
    refine WpOps.keep 58 (Value.int IntKind.i64 0) (by kernel_rfl) (by kernel_rfl) (by kernel_rfl) ?_ (fun cf => (by kernel_rfl))
    refine WpOps.keep 59 (Value.bool true) (by kernel_rfl) (by kernel_rfl) (by kernel_rfl) ?_ (fun cf => (by kernel_rfl))
    refine WpOps.keep 60 (Value.bool true) (by kernel_rfl) (by kernel_rfl) (by kernel_rfl) ?_ (fun cf => (by kernel_rfl))
    refine WpOps.keep 61 (Value.bool true) (by kernel_rfl) (by kernel_rfl) (by kernel_rfl) ?_ (fun cf => (by kernel_rfl))
    refine WpOps.framed 62 12 [] (by kernel_rfl) (by kernel_rfl) (by kernel_rfl) (by kernel_rfl) (by kernel_rfl) (fun cf => (by kernel_rfl)) ?_
    refine WpFun.of (c3) ?_
    refine WpOps.keep 63 (Value.bool true) (by kernel_rfl) (by kernel_rfl) (by kernel_rfl) ?_ (fun cf => (by kernel_rfl))
    refine WpOps.keep 2 (Value.bool true) (by kernel_rfl) (by kernel_rfl) (by kernel_rfl) ?_ (fun cf => (by kernel_rfl))
    refine WpOps.nil ?_
    refine thenK_at ?_
    refine Wp.ret ?_
    refine endK_retn [Value.bool true] (Value.bool true) (by kernel_rfl) (by kernel_rfl) ?_
    kernel_rfl
  · rw [rdV, if_neg h] at c1 c2
    refine Wp.seq ?_
    refine Wp.text ?_
    refine WpOps.keep 2 (Value.bool false) (by kernel_rfl) (by kernel_rfl) (by kernel_rfl) ?_ (fun cf => (by kernel_rfl))
    refine WpOps.nil ?_
    refine thenK_at ?_
    refine Wp.seq ?_
    refine Wp.text ?_
    refine WpOps.keep 16 (Value.string b) (by kernel_rfl) (by kernel_rfl) (by kernel_rfl) ?_ (fun cf => (by kernel_rfl))
    refine WpOps.framed 17 13 [Value.string b] (by kernel_rfl) (by kernel_rfl) (by kernel_rfl) (by kernel_rfl) (by kernel_rfl) (fun cf => (by kernel_rfl)) ?_
    refine WpFun.of (c1) ?_
    refine WpOps.keep 15 (Value.tuple #[Value.int IntKind.i64 0, Value.int IntKind.i64 0, Value.int IntKind.i64 0, Value.int IntKind.i64 0, Value.string ByteArray.empty, Value.int IntKind.i64 4]) (by kernel_rfl) (by kernel_rfl) (by kernel_rfl) ?_ (fun cf => (by kernel_rfl))
    refine WpOps.keep 18 (Value.int IntKind.i64 0) (by kernel_rfl) (by kernel_rfl) (by kernel_rfl) ?_ (fun cf => (by kernel_rfl))
    refine WpOps.keep 19 (Value.int IntKind.i64 0) (by kernel_rfl) (by kernel_rfl) (by kernel_rfl) ?_ (fun cf => (by kernel_rfl))
    refine WpOps.keep 20 (Value.int IntKind.i64 0) (by kernel_rfl) (by kernel_rfl) (by kernel_rfl) ?_ (fun cf => (by kernel_rfl))
    refine WpOps.keep 21 (Value.int IntKind.i64 0) (by kernel_rfl) (by kernel_rfl) (by kernel_rfl) ?_ (fun cf => (by kernel_rfl))
    refine WpOps.keep 22 (Value.string ByteArray.empty) (by kernel_rfl) (by kernel_rfl) (by kernel_rfl) ?_ (fun cf => (by kernel_rfl))
    refine WpOps.keep 23 (Value.int IntKind.i64 4) (by kernel_rfl) (by kernel_rfl) (by kernel_rfl) ?_ (fun cf => (by kernel_rfl))
    refine WpOps.keep 3 (Value.int IntKind.i64 0) (by kernel_rfl) (by kernel_rfl) (by kernel_rfl) ?_ (fun cf => (by kernel_rfl))
    refine WpOps.keep 4 (Value.int IntKind.i64 0) (by kernel_rfl) (by kernel_rfl) (by kernel_rfl) ?_ (fun cf => (by kernel_rfl))
    refine WpOps.keep 5 (Value.int IntKind.i64 0) (by kernel_rfl) (by kernel_rfl) (by kernel_rfl) ?_ (fun cf => (by kernel_rfl))
    refine WpOps.keep 6 (Value.int IntKind.i64 0) (by kernel_rfl) (by kernel_rfl) (by kernel_rfl) ?_ (fun cf => (by kernel_rfl))
    refine WpOps.keep 7 (Value.string ByteArray.empty) (by kernel_rfl) (by kernel_rfl) (by kernel_rfl) ?_ (fun cf => (by kernel_rfl))
    refine WpOps.keep 8 (Value.int IntKind.i64 4) (by kernel_rfl) (by kernel_rfl) (by kernel_rfl) ?_ (fun cf => (by kernel_rfl))
    refine WpOps.nil ?_
    refine thenK_at ?_
    refine Wp.seq ?_
    refine Wp.text ?_
    refine WpOps.keep 25 (Value.string b) (by kernel_rfl) (by kernel_rfl) (by kernel_rfl) ?_ (fun cf => (by kernel_rfl))
    refine WpOps.framed 26 14 [Value.string b] (by kernel_rfl) (by kernel_rfl) (by kernel_rfl) (by kernel_rfl) (by kernel_rfl) (fun cf => (by kernel_rfl)) ?_
    refine WpFun.of (c2) ?_
    refine WpOps.keep 24 (Value.tuple #[Value.int IntKind.i64 0, Value.int IntKind.i64 0, Value.int IntKind.i64 0, Value.int IntKind.i64 0, Value.string ByteArray.empty, Value.int IntKind.i64 4]) (by kernel_rfl) (by kernel_rfl) (by kernel_rfl) ?_ (fun cf => (by kernel_rfl))
    refine WpOps.keep 27 (Value.int IntKind.i64 0) (by kernel_rfl) (by kernel_rfl) (by kernel_rfl) ?_ (fun cf => (by kernel_rfl))
    refine WpOps.keep 28 (Value.int IntKind.i64 0) (by kernel_rfl) (by kernel_rfl) (by kernel_rfl) ?_ (fun cf => (by kernel_rfl))
    refine WpOps.keep 29 (Value.int IntKind.i64 0) (by kernel_rfl) (by kernel_rfl) (by kernel_rfl) ?_ (fun cf => (by kernel_rfl))
    refine WpOps.keep 30 (Value.int IntKind.i64 0) (by kernel_rfl) (by kernel_rfl) (by kernel_rfl) ?_ (fun cf => (by kernel_rfl))
    refine WpOps.keep 31 (Value.string ByteArray.empty) (by kernel_rfl) (by kernel_rfl) (by kernel_rfl) ?_ (fun cf => (by kernel_rfl))
    refine WpOps.keep 32 (Value.int IntKind.i64 4) (by kernel_rfl) (by kernel_rfl) (by kernel_rfl) ?_ (fun cf => (by kernel_rfl))
    refine WpOps.keep 9 (Value.int IntKind.i64 0) (by kernel_rfl) (by kernel_rfl) (by kernel_rfl) ?_ (fun cf => (by kernel_rfl))
    refine WpOps.keep 10 (Value.int IntKind.i64 0) (by kernel_rfl) (by kernel_rfl) (by kernel_rfl) ?_ (fun cf => (by kernel_rfl))
    refine WpOps.keep 11 (Value.int IntKind.i64 0) (by kernel_rfl) (by kernel_rfl) (by kernel_rfl) ?_ (fun cf => (by kernel_rfl))
    refine WpOps.keep 12 (Value.int IntKind.i64 0) (by kernel_rfl) (by kernel_rfl) (by kernel_rfl) ?_ (fun cf => (by kernel_rfl))
    refine WpOps.keep 13 (Value.string ByteArray.empty) (by kernel_rfl) (by kernel_rfl) (by kernel_rfl) ?_ (fun cf => (by kernel_rfl))
    refine WpOps.keep 14 (Value.int IntKind.i64 4) (by kernel_rfl) (by kernel_rfl) (by kernel_rfl) ?_ (fun cf => (by kernel_rfl))
    refine WpOps.nil ?_
    refine thenK_at ?_
    refine Wp.seq ?_
    refine Wp.text ?_
    refine WpOps.keep 33 (Value.int IntKind.i64 0) (by kernel_rfl) (by kernel_rfl) (by kernel_rfl) ?_ (fun cf => (by kernel_rfl))
    refine WpOps.keep 34 (Value.int IntKind.i64 0) (by kernel_rfl) (by kernel_rfl) (by kernel_rfl) ?_ (fun cf => (by kernel_rfl))
    refine WpOps.keep 35 (Value.bool true) (by kernel_rfl) (by kernel_rfl) (by kernel_rfl) ?_ (fun cf => (by kernel_rfl))
    refine WpOps.keep 36 (Value.bool true) (by kernel_rfl) (by kernel_rfl) (by kernel_rfl) ?_ (fun cf => (by kernel_rfl))
    refine WpOps.keep 37 (Value.int IntKind.i64 0) (by kernel_rfl) (by kernel_rfl) (by kernel_rfl) ?_ (fun cf => (by kernel_rfl))
    refine WpOps.keep 38 (Value.int IntKind.i64 0) (by kernel_rfl) (by kernel_rfl) (by kernel_rfl) ?_ (fun cf => (by kernel_rfl))
    refine WpOps.keep 39 (Value.bool true) (by kernel_rfl) (by kernel_rfl) (by kernel_rfl) ?_ (fun cf => (by kernel_rfl))
    refine WpOps.keep 40 (Value.bool true) (by kernel_rfl) (by kernel_rfl) (by kernel_rfl) ?_ (fun cf => (by kernel_rfl))
    refine WpOps.keep 41 (Value.bool true) (by kernel_rfl) (by kernel_rfl) (by kernel_rfl) ?_ (fun cf => (by kernel_rfl))
    refine WpOps.keep 42 (Value.int IntKind.i64 0) (by kernel_rfl) (by kernel_rfl) (by kernel_rfl) ?_ (fun cf => (by kernel_rfl))
    refine WpOps.keep 43 (Value.int IntKind.i64 0) (by kernel_rfl) (by kernel_rfl) (by kernel_rfl) ?_ (fun cf => (by kernel_rfl))
    refine WpOps.keep 44 (Value.bool true) (by kernel_rfl) (by kernel_rfl) (by kernel_rfl) ?_ (fun cf => (by kernel_rfl))
    refine WpOps.keep 45 (Value.bool true) (by kernel_rfl) (by kernel_rfl) (by kernel_rfl) ?_ (fun cf => (by kernel_rfl))
    refine WpOps.keep 46 (Value.bool true) (by kernel_rfl) (by kernel_rfl) (by kernel_rfl) ?_ (fun cf => (by kernel_rfl))
    refine WpOps.keep 47 (Value.int IntKind.i64 0) (by kernel_rfl) (by kernel_rfl) (by kernel_rfl) ?_ (fun cf => (by kernel_rfl))
    refine WpOps.keep 48 (Value.int IntKind.i64 0) (by kernel_rfl) (by kernel_rfl) (by kernel_rfl) ?_ (fun cf => (by kernel_rfl))
    refine WpOps.keep 49 (Value.bool true) (by kernel_rfl) (by kernel_rfl) (by kernel_rfl) ?_ (fun cf => (by kernel_rfl))
    refine WpOps.keep 50 (Value.bool true) (by kernel_rfl) (by kernel_rfl) (by kernel_rfl) ?_ (fun cf => (by kernel_rfl))
    refine WpOps.keep 51 (Value.bool true) (by kernel_rfl) (by kernel_rfl) (by kernel_rfl) ?_ (fun cf => (by kernel_rfl))
    refine WpOps.keep 52 (Value.string ByteArray.empty) (by kernel_rfl) (by kernel_rfl) (by kernel_rfl) ?_ (fun cf => (by kernel_rfl))
    refine WpOps.keep 53 (Value.string ByteArray.empty) (by kernel_rfl) (by kernel_rfl) (by kernel_rfl) ?_ (fun cf => (by kernel_rfl))
    refine WpOps.keep 54 (Value.bool true) (by kernel_rfl) (by kernel_rfl) (by kernel_rfl) ?_ (fun cf => (by kernel_rfl))
    refine WpOps.keep 55 (Value.bool true) (by kernel_rfl) (by kernel_rfl) (by kernel_rfl) ?_ (fun cf => (by kernel_rfl))
    refine WpOps.keep 56 (Value.bool true) (by kernel_rfl) (by kernel_rfl) (by kernel_rfl) ?_ (fun cf => (by kernel_rfl))
    refine WpOps.keep 57 (Value.int IntKind.i64 4) (by kernel_rfl) (by kernel_rfl) (by kernel_rfl) ?_ (fun cf => (by kernel_rfl))
    refine WpOps.keep 58 (Value.int IntKind.i64 4) (by kernel_rfl) (by kernel_rfl) (by kernel_rfl) ?_ (fun cf => (by kernel_rfl))
    refine WpOps.keep 59 (Value.bool true) (by kernel_rfl) (by kernel_rfl) (by kernel_rfl) ?_ (fun cf => (by kernel_rfl))
    refine WpOps.keep 60 (Value.bool true) (by kernel_rfl) (by kernel_rfl) (by kernel_rfl) ?_ (fun cf => (by kernel_rfl))
    refine WpOps.keep 61 (Value.bool true) (by kernel_rfl) (by kernel_rfl) (by kernel_rfl) ?_ (fun cf => (by kernel_rfl))
    refine WpOps.framed 62 12 [] (by kernel_rfl) (by kernel_rfl) (by kernel_rfl) (by kernel_rfl) (by kernel_rfl) (fun cf => (by kernel_rfl)) ?_
    refine WpFun.of (c3) ?_
    refine WpOps.keep 63 (Value.bool true) (by kernel_rfl) (by kernel_rfl) (by kernel_rfl) ?_ (fun cf => (by kernel_rfl))
    refine WpOps.keep 2 (Value.bool true) (by kernel_rfl) (by kernel_rfl) (by kernel_rfl) ?_ (fun cf => (by kernel_rfl))
    refine WpOps.nil ?_
    refine thenK_at ?_
    refine Wp.ret ?_
    refine endK_retn [Value.bool true] (Value.bool true) (by kernel_rfl) (by kernel_rfl) ?_
    kernel_rfl
theorem f16 : E.funcs 16 = some Try.f16 := by kernel_rfl
theorem mod16 (x : Int) (n : Nat) (hn : 0 < n) (h : n ≤ 5000) : Fun E 16 [.int .i64 x, .int .i64 n] (.int .i64 (modN x n)) := by
  refine Fun.of f16 rfl (of_decide_eq_true (by kernel_rfl)) rfl ?_
  have c0 : decide ((n : Int) < 1) = false := decide_eq_false (by omega)
  have n0 : (n : Int) ≠ 0 := by omega
  have h1 := Int.tmod_lt_of_pos x (b := n) (by omega)
  have h2 := Int.lt_tmod_of_pos x (b := n) (by omega)
  refine Wp.seq ?_
  refine Wp.text ?_
  refine WpOps.keep 4 (Value.int IntKind.i64 0) (by kernel_rfl) (by kernel_rfl) (by kernel_rfl) ?_ (fun cf => (by kernel_rfl))
  refine WpOps.nil ?_
  refine thenK_at ?_
  refine Wp.seq ?_
  refine Wp.seq ?_
  refine Wp.text ?_
  refine WpOps.keep 6 (Value.int IntKind.i64 (↑n : Int)) (by kernel_rfl) (by kernel_rfl) (by kernel_rfl) ?_ (fun cf => (by kernel_rfl))
  refine WpOps.keep 7 (Value.bool false) (by kernel_rfl) (by kernel_rfl) (by kernel_rfl) ?_ (fun cf => by_fact c0 ((by kernel_rfl)))
  refine WpOps.nil ?_
  refine thenK_at ?_
  refine Wp.off (by kernel_rfl) ?_
  refine Wp.skip ?_
  refine thenK_at ?_
  refine Wp.seq ?_
  refine Wp.text ?_
  refine WpOps.keep 8 (Value.int IntKind.i64 x) (by kernel_rfl) (by kernel_rfl) (by kernel_rfl) ?_ (fun cf => (by kernel_rfl))
  refine WpOps.keep 9 (Value.int IntKind.i64 (↑n : Int)) (by kernel_rfl) (by kernel_rfl) (by kernel_rfl) ?_ (fun cf => (by kernel_rfl))
  refine WpOps.keep 10 (Value.int IntKind.i64 (Int.tmod x (↑n : Int))) (by kernel_rfl) (by kernel_rfl) (by kernel_rfl) ?_ (fun cf => o_rem n0 (by kernel_rfl) (by kernel_rfl))
  refine WpOps.keep 5 (Value.int IntKind.i64 (Int.tmod x (↑n : Int))) (by kernel_rfl) (by kernel_rfl) (by kernel_rfl) ?_ (fun cf => (by kernel_rfl))
  refine WpOps.nil ?_
  refine thenK_at ?_
  refine Wp.seq ?_
  refine Wp.seq ?_
  refine Wp.text ?_
  refine WpOps.keep 11 (Value.int IntKind.i64 (Int.tmod x (↑n : Int))) (by kernel_rfl) (by kernel_rfl) (by kernel_rfl) ?_ (fun cf => (by kernel_rfl))
  refine WpOps.keep 12 (Value.bool (decide (Int.tmod x (↑n : Int) < 0))) (by kernel_rfl) (by kernel_rfl) (by kernel_rfl) ?_ (fun cf => (by kernel_rfl))
  refine WpOps.nil ?_
  refine thenK_at ?_
  refine Wp.split (decide (Int.tmod x (↑n : Int) < 0)) (by kernel_rfl) (fun hc => ?_) (fun hc => ?_)
  · have hm : modN x n = x.tmod n + n := if_pos (of_decide_eq_true hc)
    have hw : IntKind.i64.wrap (x.tmod n + n) = modN x n := by rw [hm, wr _ (by omega) (by omega)]
    refine Wp.text ?_
    refine WpOps.keep 13 (Value.int IntKind.i64 (Int.tmod x (↑n : Int))) (by kernel_rfl) (by kernel_rfl) (by kernel_rfl) ?_ (fun cf => (by kernel_rfl))
    refine WpOps.keep 14 (Value.int IntKind.i64 (↑n : Int)) (by kernel_rfl) (by kernel_rfl) (by kernel_rfl) ?_ (fun cf => (by kernel_rfl))
    refine WpOps.keep 15 (Value.int IntKind.i64 (IntKind.wrap IntKind.i64 (Int.tmod x (↑n : Int) + (↑n : Int)))) (by kernel_rfl) (by kernel_rfl) (by kernel_rfl) ?_ (fun cf => (by kernel_rfl))
    refine WpOps.keep 5 (Value.int IntKind.i64 (IntKind.wrap IntKind.i64 (Int.tmod x (↑n : Int) + (↑n : Int)))) (by kernel_rfl) (by kernel_rfl) (by kernel_rfl) ?_ (fun cf => (by kernel_rfl))
    refine WpOps.nil ?_
    refine thenK_at ?_
    refine Wp.seq ?_
    refine Wp.text ?_
    refine WpOps.keep 16 (Value.int IntKind.i64 (IntKind.wrap IntKind.i64 (Int.tmod x (↑n : Int) + (↑n : Int)))) (by kernel_rfl) (by kernel_rfl) (by kernel_rfl) ?_ (fun cf => (by kernel_rfl))
    refine WpOps.keep 4 (Value.int IntKind.i64 (IntKind.wrap IntKind.i64 (Int.tmod x (↑n : Int) + (↑n : Int)))) (by kernel_rfl) (by kernel_rfl) (by kernel_rfl) ?_ (fun cf => (by kernel_rfl))
    refine WpOps.nil ?_
    refine thenK_at ?_
    refine Wp.ret ?_
    refine endK_retn [Value.int IntKind.i64 (IntKind.wrap IntKind.i64 (Int.tmod x (↑n : Int) + (↑n : Int)))] (Value.int IntKind.i64 (IntKind.wrap IntKind.i64 (Int.tmod x (↑n : Int) + (↑n : Int)))) (by kernel_rfl) (by kernel_rfl) ?_
    rw [hw]
    rfl
  · have hm : modN x n = x.tmod n := if_neg (of_decide_eq_false hc)
    refine Wp.skip ?_
    refine thenK_at ?_
    refine Wp.seq ?_
    refine Wp.text ?_
    refine WpOps.keep 16 (Value.int IntKind.i64 (Int.tmod x (↑n : Int))) (by kernel_rfl) (by kernel_rfl) (by kernel_rfl) ?_ (fun cf => (by kernel_rfl))
    refine WpOps.keep 4 (Value.int IntKind.i64 (Int.tmod x (↑n : Int))) (by kernel_rfl) (by kernel_rfl) (by kernel_rfl) ?_ (fun cf => (by kernel_rfl))
    refine WpOps.nil ?_
    refine thenK_at ?_
    refine Wp.ret ?_
    refine endK_retn [Value.int IntKind.i64 (Int.tmod x (↑n : Int))] (Value.int IntKind.i64 (Int.tmod x (↑n : Int))) (by kernel_rfl) (by kernel_rfl) ?_
    rw [hm]
    rfl
theorem f15 : E.funcs 15 = some Try.f15 := by kernel_rfl
theorem spoil15 (b : ByteArray) (j : Nat) (hj : j < b.size) (hb : b.size ≤ 5000) : Fun E 15 [.string b, .int .i64 j] (.tuple #[.string (spo b j), .int .i64 0]) := by
  refine Fun.of f15 rfl (of_decide_eq_true (by kernel_rfl)) rfl ?_
  have c0 : (b.toList == ByteArray.toList (ByteArray.mk #[])) = false := str_ne fun h => by rw [h] at hj; exact absurd hj (Nat.not_lt_zero _)
  have c1 := mod16 (j : Int) b.size (by omega) hb
  have e1 : modN (j : Int) b.size = j := by
    unfold modN
    rw [Int.tmod_eq_of_lt (by omega) (by omega), if_neg (by omega)]
  rw [e1] at c1
  have h0 : 0 ≤ (j : Int) ∧ (j : Int) < b.size := by omega
  have h1 : 0 ≤ (j : Int) ∧ (j : Int) ≤ b.size := by omega
  have hv := byte_get b j hj
  have w1 : IntKind.i64.wrap ((j : Int) + 1) = ((j + 1 : Nat) : Int) := by rw [wr _ (by omega) (by omega)]; rfl
  have s1 : (((b.extract 0 (j : Int).toNat).size + (⟨#[UInt8.ofNat (IntKind.u8.wrap (((byteAt b j).toNat : Int).tmod 255 + 1)).toNat]⟩ : ByteArray).size : Nat) : Int) ≤ 9223372036854775807 := by
    rw [ByteArray.size_extract]
    show ((_ + 1 : Nat) : Int) ≤ _
    omega
  have s2 : 0 ≤ IntKind.i64.wrap ((j : Int) + 1) ∧ IntKind.i64.wrap ((j : Int) + 1) ≤ b.size := by rw [w1]; omega
  have s3 : (((b.extract 0 (j : Int).toNat ++ (⟨#[UInt8.ofNat (IntKind.u8.wrap (((byteAt b j).toNat : Int).tmod 255 + 1)).toNat]⟩ : ByteArray)).size + (b.extract (IntKind.i64.wrap ((j : Int) + 1)).toNat b.size).size : Nat) : Int) ≤ 9223372036854775807 := by
    rw [ByteArray.size_append, ByteArray.size_extract, ByteArray.size_extract]
    show (((_ + 1) + _ : Nat) : Int) ≤ _
    omega
  refine Wp.seq ?_
  refine Wp.text ?_
  refine WpOps.keep 4 (Value.string (ByteArray.mk #[])) (by kernel_rfl) (by kernel_rfl) (by kernel_rfl) ?_ (fun cf => (by kernel_rfl))
  refine WpOps.keep 5 (Value.int IntKind.i64 0) (by kernel_rfl) (by kernel_rfl) (by kernel_rfl) ?_ (fun cf => (by kernel_rfl))
  refine WpOps.nil ?_
  refine thenK_at ?_
  refine Wp.seq ?_
  refine Wp.seq ?_
  refine Wp.text ?_
  refine WpOps.keep 7 (Value.string b) (by kernel_rfl) (by kernel_rfl) (by kernel_rfl) ?_ (fun cf => (by kernel_rfl))
  refine WpOps.keep 8 (Value.bool false) (by kernel_rfl) (by kernel_rfl) (by kernel_rfl) ?_ (fun cf => by_fact c0 ((by kernel_rfl)))
  refine WpOps.nil ?_
  refine thenK_at ?_
  refine Wp.off (by kernel_rfl) ?_
  refine Wp.skip ?_
  refine thenK_at ?_
  refine Wp.seq ?_
  refine Wp.text ?_
  refine WpOps.keep 9 (Value.int IntKind.i64 (↑j : Int)) (by kernel_rfl) (by kernel_rfl) (by kernel_rfl) ?_ (fun cf => (by kernel_rfl))
  refine WpOps.keep 10 (Value.string b) (by kernel_rfl) (by kernel_rfl) (by kernel_rfl) ?_ (fun cf => (by kernel_rfl))
  refine WpOps.keep 11 (Value.int IntKind.i64 (↑(ByteArray.size b) : Int)) (by kernel_rfl) (by kernel_rfl) (by kernel_rfl) ?_ (fun cf => (by kernel_rfl))
  refine WpOps.framed 12 16 [Value.int IntKind.i64 (↑j : Int), Value.int IntKind.i64 (↑(ByteArray.size b) : Int)] (by kernel_rfl) (by kernel_rfl) (by kernel_rfl) (by kernel_rfl) (by kernel_rfl) (fun cf => (by kernel_rfl)) ?_
  refine WpFun.of (c1) ?_
  refine WpOps.keep 6 (Value.int IntKind.i64 (↑j : Int)) (by kernel_rfl) (by kernel_rfl) (by kernel_rfl) ?_ (fun cf => (by kernel_rfl))
  refine WpOps.nil ?_
  refine thenK_at ?_
  refine Wp.seq ?_
  refine Wp.region (by kernel_rfl) ?_
  refine WpOps.keep 13 (Value.string b) (by kernel_rfl) (by kernel_rfl) (by kernel_rfl) ?_ (fun cf => (by kernel_rfl))
  refine WpOps.keep 14 (Value.int IntKind.i64 (↑j : Int)) (by kernel_rfl) (by kernel_rfl) (by kernel_rfl) ?_ (fun cf => (by kernel_rfl))
  refine WpOps.keep 15 (Value.string (ByteArray.extract b 0 (Int.toNat (↑j : Int)))) (by kernel_rfl) (by kernel_rfl) (by kernel_rfl) ?_ (fun cf => o_cut_hi h1 (by kernel_rfl) (by kernel_rfl) (by kernel_rfl))
  refine WpOps.keep 16 (Value.string b) (by kernel_rfl) (by kernel_rfl) (by kernel_rfl) ?_ (fun cf => (by kernel_rfl))
  refine WpOps.keep 17 (Value.int IntKind.i64 (↑j : Int)) (by kernel_rfl) (by kernel_rfl) (by kernel_rfl) ?_ (fun cf => (by kernel_rfl))
  refine WpOps.keep 18 (Value.int IntKind.u8 (↑(UInt8.toNat (byteAt b j)) : Int)) (by kernel_rfl) (by kernel_rfl) (by kernel_rfl) ?_ (fun cf => o_indexStr (of_decide_eq_true (by kernel_rfl)) hv (by kernel_rfl) (by kernel_rfl) (by kernel_rfl))
  refine WpOps.keep 19 (Value.int IntKind.u8 (Int.tmod (↑(UInt8.toNat (byteAt b j)) : Int) 255)) (by kernel_rfl) (by kernel_rfl) (by kernel_rfl) ?_ (fun cf => (by kernel_rfl))
  refine WpOps.keep 20 (Value.int IntKind.u8 (IntKind.wrap IntKind.u8 (Int.tmod (↑(UInt8.toNat (byteAt b j)) : Int) 255 + 1))) (by kernel_rfl) (by kernel_rfl) (by kernel_rfl) ?_ (fun cf => (by kernel_rfl))
  refine WpOps.made 21 (Value.slice (some (Addr.mk 0 0 none)) 1 1) (Blk.mk 5 true [Value.int IntKind.u8 (IntKind.wrap IntKind.u8 (Int.tmod (↑(UInt8.toNat (byteAt b j)) : Int) 255 + 1))]) (by kernel_rfl) (by kernel_rfl) (by kernel_rfl) ?_ (fun cf => (by kernel_rfl))
  refine WpOps.keep 22 (Value.string (ByteArray.mk #[UInt8.ofNat (Int.toNat (IntKind.wrap IntKind.u8 (Int.tmod (↑(UInt8.toNat (byteAt b j)) : Int) 255 + 1)))])) (by kernel_rfl) (by kernel_rfl) (by kernel_rfl) ?_ (fun cf => (by kernel_rfl))
  refine WpOps.keep 23 (Value.string (ByteArray.extract b 0 (Int.toNat (↑j : Int)) ++ ByteArray.mk #[UInt8.ofNat (Int.toNat (IntKind.wrap IntKind.u8 (Int.tmod (↑(UInt8.toNat (byteAt b j)) : Int) 255 + 1)))])) (by kernel_rfl) (by kernel_rfl) (by kernel_rfl) ?_ (fun cf => o_add s1 (by kernel_rfl) (by kernel_rfl))
  refine WpOps.keep 24 (Value.string b) (by kernel_rfl) (by kernel_rfl) (by kernel_rfl) ?_ (fun cf => (by kernel_rfl))
  refine WpOps.keep 25 (Value.int IntKind.i64 (↑j : Int)) (by kernel_rfl) (by kernel_rfl) (by kernel_rfl) ?_ (fun cf => (by kernel_rfl))
  refine WpOps.keep 26 (Value.int IntKind.i64 (IntKind.wrap IntKind.i64 ((↑j : Int) + 1))) (by kernel_rfl) (by kernel_rfl) (by kernel_rfl) ?_ (fun cf => (by kernel_rfl))
  refine WpOps.keep 27 (Value.string (ByteArray.extract b (Int.toNat (IntKind.wrap IntKind.i64 ((↑j : Int) + 1))) (ByteArray.size b))) (by kernel_rfl) (by kernel_rfl) (by kernel_rfl) ?_ (fun cf => o_cut_lo s2 (by kernel_rfl) (by kernel_rfl) (by kernel_rfl))
  refine WpOps.keep 28 (Value.string (ByteArray.extract b 0 (Int.toNat (↑j : Int)) ++ ByteArray.mk #[UInt8.ofNat (Int.toNat (IntKind.wrap IntKind.u8 (Int.tmod (↑(UInt8.toNat (byteAt b j)) : Int) 255 + 1)))] ++ ByteArray.extract b (Int.toNat (IntKind.wrap IntKind.i64 ((↑j : Int) + 1))) (ByteArray.size b))) (by kernel_rfl) (by kernel_rfl) (by kernel_rfl) ?_ (fun cf => o_add s3 (by kernel_rfl) (by kernel_rfl))
  refine WpOps.keep 4 (Value.string (ByteArray.extract b 0 (Int.toNat (↑j : Int)) ++ ByteArray.mk #[UInt8.ofNat (Int.toNat (IntKind.wrap IntKind.u8 (Int.tmod (↑(UInt8.toNat (byteAt b j)) : Int) 255 + 1)))] ++ ByteArray.extract b (Int.toNat (IntKind.wrap IntKind.i64 ((↑j : Int) + 1))) (ByteArray.size b))) (by kernel_rfl) (by kernel_rfl) (by kernel_rfl) ?_ (fun cf => (by kernel_rfl))
  refine WpOps.keep 5 (Value.int IntKind.i64 0) (by kernel_rfl) (by kernel_rfl) (by kernel_rfl) ?_ (fun cf => (by kernel_rfl))
  refine WpOps.nil ?_
  refine thenK_at ?_
  refine Wp.ret ?_
  refine endK_retn [Value.string (ByteArray.extract b 0 (Int.toNat (↑j : Int)) ++ ByteArray.mk #[UInt8.ofNat (Int.toNat (IntKind.wrap IntKind.u8 (Int.tmod (↑(UInt8.toNat (byteAt b j)) : Int) 255 + 1)))] ++ ByteArray.extract b (Int.toNat (IntKind.wrap IntKind.i64 ((↑j : Int) + 1))) (ByteArray.size b)), Value.int IntKind.i64 0] (Value.tuple #[Value.string (ByteArray.extract b 0 (Int.toNat (↑j : Int)) ++ ByteArray.mk #[UInt8.ofNat (Int.toNat (IntKind.wrap IntKind.u8 (Int.tmod (↑(UInt8.toNat (byteAt b j)) : Int) 255 + 1)))] ++ ByteArray.extract b (Int.toNat (IntKind.wrap IntKind.i64 ((↑j : Int) + 1))) (ByteArray.size b)), Value.int IntKind.i64 0]) (by kernel_rfl) (by kernel_rfl) ?_
  rw [w1]
  rfl
theorem f5 : E.funcs 5 = some Try.f5 := by kernel_rfl
theorem law5 (k g s r : Int) (d : ByteArray) (x : Int) : Fun E 5 [cv k g s r d, .int .i64 x] (.bool true) := by
  refine Fun.of f5 rfl (of_decide_eq_true (by kernel_rfl)) rfl ?_
  have c1 := frame10 k g s r d
  have c3 := sane12
  by_cases h : Fit k g s r d.size
  · rw [frame, if_pos h] at c1
    have hs := frm_size k g s r d
    have hd := h.2.2.2.2.2.2
    have z0 : (((summed (fr3 k g s r ++ d)).size : Int) == 0) = false := beq_eq_false_iff_ne.2 (by unfold frm at hs; omega)
    obtain ⟨m1, m2⟩ := modN_in x (frm k g s r d).size (by omega)
    obtain ⟨j, hj⟩ : ∃ j : Nat, modN x (frm k g s r d).size = j := ⟨(modN x (frm k g s r d).size).toNat, by omega⟩
    have c4 := mod16 x (frm k g s r d).size (by omega) (by omega)
    rw [hj] at c4
    have c5 := spoil15 (frm k g s r d) j (by omega) (by omega)
    have c6 := read13 (spo (frm k g s r d) j)
    have hn : ¬ RdOk (spo (frm k g s r d) j) := fun h => by
      have h1 := h.2.1
      rw [frm, spoilt_sum _ j (by unfold frm at hj m2; omega)] at h1
      cases h1
    rw [rdV, if_neg hn] at c6
    unfold frm at c4 c5 c6
    refine Wp.seq ?_
    refine Wp.text ?_
    refine WpOps.made 2 (Value.pointer (some (Addr.mk 0 0 none))) (Blk.mk 23 true [Value.int IntKind.i64 k, Value.int IntKind.i64 g, Value.int IntKind.i64 s, Value.int IntKind.i64 r, Value.string d]) (by kernel_rfl) (by kernel_rfl) (by kernel_rfl) ?_ (fun cf => (by kernel_rfl))
    refine WpOps.keep 4 (Value.bool false) (by kernel_rfl) (by kernel_rfl) (by kernel_rfl) ?_ (fun cf => (by kernel_rfl))
    refine WpOps.nil ?_
    refine thenK_at ?_
    refine Wp.seq ?_
    refine Wp.text ?_
    refine WpOps.keep 10 (Value.pointer (some (Addr.mk 0 0 none))) (by kernel_rfl) (by kernel_rfl) (by kernel_rfl) ?_ (fun cf => (by kernel_rfl))
    refine WpOps.keep 11 (Value.int IntKind.i64 k) (by kernel_rfl) (by kernel_rfl) (by kernel_rfl) ?_ (fun cf => (by kernel_rfl))
    refine WpOps.keep 12 (Value.pointer (some (Addr.mk 0 1 none))) (by kernel_rfl) (by kernel_rfl) (by kernel_rfl) ?_ (fun cf => (by kernel_rfl))
    refine WpOps.keep 13 (Value.int IntKind.i64 g) (by kernel_rfl) (by kernel_rfl) (by kernel_rfl) ?_ (fun cf => (by kernel_rfl))
    refine WpOps.keep 14 (Value.pointer (some (Addr.mk 0 2 none))) (by kernel_rfl) (by kernel_rfl) (by kernel_rfl) ?_ (fun cf => (by kernel_rfl))
    refine WpOps.keep 15 (Value.int IntKind.i64 s) (by kernel_rfl) (by kernel_rfl) (by kernel_rfl) ?_ (fun cf => (by kernel_rfl))
    refine WpOps.keep 16 (Value.pointer (some (Addr.mk 0 3 none))) (by kernel_rfl) (by kernel_rfl) (by kernel_rfl) ?_ (fun cf => (by kernel_rfl))
    refine WpOps.keep 17 (Value.int IntKind.i64 r) (by kernel_rfl) (by kernel_rfl) (by kernel_rfl) ?_ (fun cf => (by kernel_rfl))
    refine WpOps.keep 18 (Value.pointer (some (Addr.mk 0 4 none))) (by kernel_rfl) (by kernel_rfl) (by kernel_rfl) ?_ (fun cf => (by kernel_rfl))
    refine WpOps.keep 19 (Value.string d) (by kernel_rfl) (by kernel_rfl) (by kernel_rfl) ?_ (fun cf => (by kernel_rfl))
    refine WpOps.framed 20 10 [Value.int IntKind.i64 k, Value.int IntKind.i64 g, Value.int IntKind.i64 s, Value.int IntKind.i64 r, Value.string d] (by kernel_rfl) (by kernel_rfl) (by kernel_rfl) (by kernel_rfl) (by kernel_rfl) (fun cf => (by kernel_rfl)) ?_
    refine WpFun.of (c1) ?_
    refine WpOps.keep 9 (Value.tuple #[Value.string (summed (fr3 k g s r ++ d)), Value.int IntKind.i64 0]) (by kernel_rfl) (by kernel_rfl) (by kernel_rfl) ?_ (fun cf => (by kernel_rfl))
    refine WpOps.keep 21 (Value.string (summed (fr3 k g s r ++ d))) (by kernel_rfl) (by kernel_rfl) (by kernel_rfl) ?_ (fun cf => (by kernel_rfl))
    refine WpOps.keep 22 (Value.int IntKind.i64 0) (by kernel_rfl) (by kernel_rfl) (by kernel_rfl) ?_ (fun cf => (by kernel_rfl))
    refine WpOps.keep 5 (Value.string (summed (fr3 k g s r ++ d))) (by kernel_rfl) (by kernel_rfl) (by kernel_rfl) ?_ (fun cf => (by kernel_rfl))
    refine WpOps.keep 6 (Value.int IntKind.i64 0) (by kernel_rfl) (by kernel_rfl) (by kernel_rfl) ?_ (fun cf => (by kernel_rfl))
    refine WpOps.nil ?_
    refine thenK_at ?_
    refine Wp.seq ?_
    refine Wp.seq ?_
    refine Wp.text ?_
    refine WpOps.keep 23 (Value.int IntKind.i64 0) (by kernel_rfl) (by kernel_rfl) (by kernel_rfl) ?_ (fun cf => (by kernel_rfl))
    refine WpOps.keep 24 (Value.bool false) (by kernel_rfl) (by kernel_rfl) (by kernel_rfl) ?_ (fun cf => (by kernel_rfl))
    refine WpOps.nil ?_
    refine thenK_at ?_
    refine Wp.off (by kernel_rfl) ?_
    refine Wp.skip ?_
    refine thenK_at ?_
    refine Wp.seq ?_
    refine Wp.seq ?_
    refine Wp.text ?_
    refine WpOps.keep 26 (Value.string (summed (fr3 k g s r ++ d))) (by kernel_rfl) (by kernel_rfl) (by kernel_rfl) ?_ (fun cf => (by kernel_rfl))
    refine WpOps.keep 27 (Value.int IntKind.i64 (↑(ByteArray.size (summed (fr3 k g s r ++ d))) : Int)) (by kernel_rfl) (by kernel_rfl) (by kernel_rfl) ?_ (fun cf => (by kernel_rfl))
    refine WpOps.keep 28 (Value.bool ((↑(ByteArray.size (summed (fr3 k g s r ++ d))) : Int) == 0)) (by kernel_rfl) (by kernel_rfl) (by kernel_rfl) ?_ (fun cf => (by kernel_rfl))
    refine WpOps.nil ?_
    refine thenK_at ?_
    refine Wp.off (by kernel_rfl) ?_
    refine Wp.skip ?_
    refine thenK_at ?_
    refine Wp.seq ?_
    refine Wp.text ?_
    refine WpOps.keep 30 (Value.string (summed (fr3 k g s r ++ d))) (by kernel_rfl) (by kernel_rfl) (by kernel_rfl) ?_ (fun cf => (by kernel_rfl))
    refine WpOps.keep 31 (Value.int IntKind.i64 x) (by kernel_rfl) (by kernel_rfl) (by kernel_rfl) ?_ (fun cf => (by kernel_rfl))
    refine WpOps.keep 32 (Value.string (summed (fr3 k g s r ++ d))) (by kernel_rfl) (by kernel_rfl) (by kernel_rfl) ?_ (fun cf => (by kernel_rfl))
    refine WpOps.keep 33 (Value.int IntKind.i64 (↑(ByteArray.size (summed (fr3 k g s r ++ d))) : Int)) (by kernel_rfl) (by kernel_rfl) (by kernel_rfl) ?_ (fun cf => (by kernel_rfl))
    refine WpOps.framed 34 16 [Value.int IntKind.i64 x, Value.int IntKind.i64 (↑(ByteArray.size (summed (fr3 k g s r ++ d))) : Int)] (by kernel_rfl) (by kernel_rfl) (by kernel_rfl) (by kernel_rfl) (by kernel_rfl) (fun cf => (by kernel_rfl)) ?_
    refine WpFun.of (c4) ?_
    refine WpOps.framed 35 15 [Value.string (summed (fr3 k g s r ++ d)), Value.int IntKind.i64 (↑j : Int)] (by kernel_rfl) (by kernel_rfl) (by kernel_rfl) (by kernel_rfl) (by kernel_rfl) (fun cf => (by kernel_rfl)) ?_
    refine WpFun.of (c5) ?_
    refine WpOps.keep 29 (Value.tuple #[Value.string (spo (summed (fr3 k g s r ++ d)) j), Value.int IntKind.i64 0]) (by kernel_rfl) (by kernel_rfl) (by kernel_rfl) ?_ (fun cf => (by kernel_rfl))
    refine WpOps.keep 36 (Value.string (spo (summed (fr3 k g s r ++ d)) j)) (by kernel_rfl) (by kernel_rfl) (by kernel_rfl) ?_ (fun cf => (by kernel_rfl))
    refine WpOps.keep 37 (Value.int IntKind.i64 0) (by kernel_rfl) (by kernel_rfl) (by kernel_rfl) ?_ (fun cf => (by kernel_rfl))
    refine WpOps.keep 7 (Value.string (spo (summed (fr3 k g s r ++ d)) j)) (by kernel_rfl) (by kernel_rfl) (by kernel_rfl) ?_ (fun cf => (by kernel_rfl))
    refine WpOps.keep 8 (Value.int IntKind.i64 0) (by kernel_rfl) (by kernel_rfl) (by kernel_rfl) ?_ (fun cf => (by kernel_rfl))
    refine WpOps.nil ?_
    refine thenK_at ?_
    refine Wp.seq ?_
    refine Wp.text ?_
    refine WpOps.keep 39 (Value.string (spo (summed (fr3 k g s r ++ d)) j)) (by kernel_rfl) (by kernel_rfl) (by kernel_rfl) ?_ (fun cf => (by kernel_rfl))
    refine WpOps.framed 40 13 [Value.string (spo (summed (fr3 k g s r ++ d)) j)] (by kernel_rfl) (by kernel_rfl) (by kernel_rfl) (by kernel_rfl) (by kernel_rfl) (fun cf => (by kernel_rfl)) ?_
    refine WpFun.of (c6) ?_
    refine WpOps.keep 38 (Value.tuple #[Value.int IntKind.i64 0, Value.int IntKind.i64 0, Value.int IntKind.i64 0, Value.int IntKind.i64 0, Value.string ByteArray.empty, Value.int IntKind.i64 4]) (by kernel_rfl) (by kernel_rfl) (by kernel_rfl) ?_ (fun cf => (by kernel_rfl))
    refine WpOps.keep 41 (Value.int IntKind.i64 0) (by kernel_rfl) (by kernel_rfl) (by kernel_rfl) ?_ (fun cf => (by kernel_rfl))
    refine WpOps.keep 42 (Value.int IntKind.i64 0) (by kernel_rfl) (by kernel_rfl) (by kernel_rfl) ?_ (fun cf => (by kernel_rfl))
    refine WpOps.keep 43 (Value.int IntKind.i64 0) (by kernel_rfl) (by kernel_rfl) (by kernel_rfl) ?_ (fun cf => (by kernel_rfl))
    refine WpOps.keep 44 (Value.int IntKind.i64 0) (by kernel_rfl) (by kernel_rfl) (by kernel_rfl) ?_ (fun cf => (by kernel_rfl))
    refine WpOps.keep 45 (Value.string ByteArray.empty) (by kernel_rfl) (by kernel_rfl) (by kernel_rfl) ?_ (fun cf => (by kernel_rfl))
    refine WpOps.keep 46 (Value.int IntKind.i64 4) (by kernel_rfl) (by kernel_rfl) (by kernel_rfl) ?_ (fun cf => (by kernel_rfl))
    refine WpOps.keep 6 (Value.int IntKind.i64 4) (by kernel_rfl) (by kernel_rfl) (by kernel_rfl) ?_ (fun cf => (by kernel_rfl))
    refine WpOps.nil ?_
    refine thenK_at ?_
    refine Wp.seq ?_
    refine Wp.text ?_
    refine WpOps.keep 47 (Value.int IntKind.i64 4) (by kernel_rfl) (by kernel_rfl) (by kernel_rfl) ?_ (fun cf => (by kernel_rfl))
    refine WpOps.keep 48 (Value.bool true) (by kernel_rfl) (by kernel_rfl) (by kernel_rfl) ?_ (fun cf => (by kernel_rfl))
    refine WpOps.keep 49 (Value.bool true) (by kernel_rfl) (by kernel_rfl) (by kernel_rfl) ?_ (fun cf => (by kernel_rfl))
    refine WpOps.framed 50 12 [] (by kernel_rfl) (by kernel_rfl) (by kernel_rfl) (by kernel_rfl) (by kernel_rfl) (fun cf => (by kernel_rfl)) ?_
    refine WpFun.of (c3) ?_
    refine WpOps.keep 51 (Value.bool true) (by kernel_rfl) (by kernel_rfl) (by kernel_rfl) ?_ (fun cf => (by kernel_rfl))
    refine WpOps.keep 4 (Value.bool true) (by kernel_rfl) (by kernel_rfl) (by kernel_rfl) ?_ (fun cf => (by kernel_rfl))
    refine WpOps.nil ?_
    refine thenK_at ?_
    refine Wp.ret ?_
    refine endK_retn [Value.bool true] (Value.bool true) (by kernel_rfl) (by kernel_rfl) ?_
    kernel_rfl
  · rw [frame, if_neg h] at c1
    refine Wp.seq ?_
    refine Wp.text ?_
    refine WpOps.made 2 (Value.pointer (some (Addr.mk 0 0 none))) (Blk.mk 23 true [Value.int IntKind.i64 k, Value.int IntKind.i64 g, Value.int IntKind.i64 s, Value.int IntKind.i64 r, Value.string d]) (by kernel_rfl) (by kernel_rfl) (by kernel_rfl) ?_ (fun cf => (by kernel_rfl))
    refine WpOps.keep 4 (Value.bool false) (by kernel_rfl) (by kernel_rfl) (by kernel_rfl) ?_ (fun cf => (by kernel_rfl))
    refine WpOps.nil ?_
    refine thenK_at ?_
    refine Wp.seq ?_
    refine Wp.text ?_
    refine WpOps.keep 10 (Value.pointer (some (Addr.mk 0 0 none))) (by kernel_rfl) (by kernel_rfl) (by kernel_rfl) ?_ (fun cf => (by kernel_rfl))
    refine WpOps.keep 11 (Value.int IntKind.i64 k) (by kernel_rfl) (by kernel_rfl) (by kernel_rfl) ?_ (fun cf => (by kernel_rfl))
    refine WpOps.keep 12 (Value.pointer (some (Addr.mk 0 1 none))) (by kernel_rfl) (by kernel_rfl) (by kernel_rfl) ?_ (fun cf => (by kernel_rfl))
    refine WpOps.keep 13 (Value.int IntKind.i64 g) (by kernel_rfl) (by kernel_rfl) (by kernel_rfl) ?_ (fun cf => (by kernel_rfl))
    refine WpOps.keep 14 (Value.pointer (some (Addr.mk 0 2 none))) (by kernel_rfl) (by kernel_rfl) (by kernel_rfl) ?_ (fun cf => (by kernel_rfl))
    refine WpOps.keep 15 (Value.int IntKind.i64 s) (by kernel_rfl) (by kernel_rfl) (by kernel_rfl) ?_ (fun cf => (by kernel_rfl))
    refine WpOps.keep 16 (Value.pointer (some (Addr.mk 0 3 none))) (by kernel_rfl) (by kernel_rfl) (by kernel_rfl) ?_ (fun cf => (by kernel_rfl))
    refine WpOps.keep 17 (Value.int IntKind.i64 r) (by kernel_rfl) (by kernel_rfl) (by kernel_rfl) ?_ (fun cf => (by kernel_rfl))
    refine WpOps.keep 18 (Value.pointer (some (Addr.mk 0 4 none))) (by kernel_rfl) (by kernel_rfl) (by kernel_rfl) ?_ (fun cf => (by kernel_rfl))
    refine WpOps.keep 19 (Value.string d) (by kernel_rfl) (by kernel_rfl) (by kernel_rfl) ?_ (fun cf => (by kernel_rfl))
    refine WpOps.framed 20 10 [Value.int IntKind.i64 k, Value.int IntKind.i64 g, Value.int IntKind.i64 s, Value.int IntKind.i64 r, Value.string d] (by kernel_rfl) (by kernel_rfl) (by kernel_rfl) (by kernel_rfl) (by kernel_rfl) (fun cf => (by kernel_rfl)) ?_
    refine WpFun.of (c1) ?_
    refine WpOps.keep 9 (Value.tuple #[Value.string ByteArray.empty, Value.int IntKind.i64 1]) (by kernel_rfl) (by kernel_rfl) (by kernel_rfl) ?_ (fun cf => (by kernel_rfl))
    refine WpOps.keep 21 (Value.string ByteArray.empty) (by kernel_rfl) (by kernel_rfl) (by kernel_rfl) ?_ (fun cf => (by kernel_rfl))
    refine WpOps.keep 22 (Value.int IntKind.i64 1) (by kernel_rfl) (by kernel_rfl) (by kernel_rfl) ?_ (fun cf => (by kernel_rfl))
    refine WpOps.keep 5 (Value.string ByteArray.empty) (by kernel_rfl) (by kernel_rfl) (by kernel_rfl) ?_ (fun cf => (by kernel_rfl))
    refine WpOps.keep 6 (Value.int IntKind.i64 1) (by kernel_rfl) (by kernel_rfl) (by kernel_rfl) ?_ (fun cf => (by kernel_rfl))
    refine WpOps.nil ?_
    refine thenK_at ?_
    refine Wp.seq ?_
    refine Wp.seq ?_
    refine Wp.text ?_
    refine WpOps.keep 23 (Value.int IntKind.i64 1) (by kernel_rfl) (by kernel_rfl) (by kernel_rfl) ?_ (fun cf => (by kernel_rfl))
    refine WpOps.keep 24 (Value.bool true) (by kernel_rfl) (by kernel_rfl) (by kernel_rfl) ?_ (fun cf => (by kernel_rfl))
    refine WpOps.nil ?_
    refine thenK_at ?_
    refine Wp.on (by kernel_rfl) ?_
    refine Wp.seq ?_
    refine Wp.text ?_
    refine WpOps.framed 25 12 [] (by kernel_rfl) (by kernel_rfl) (by kernel_rfl) (by kernel_rfl) (by kernel_rfl) (fun cf => (by kernel_rfl)) ?_
    refine WpFun.of (c3) ?_
    refine WpOps.keep 4 (Value.bool true) (by kernel_rfl) (by kernel_rfl) (by kernel_rfl) ?_ (fun cf => (by kernel_rfl))
    refine WpOps.nil ?_
    refine thenK_at ?_
    refine Wp.ret ?_
    refine thenK_ret ?_
    refine endK_retn [Value.bool true] (Value.bool true) (by kernel_rfl) (by kernel_rfl) ?_
    kernel_rfl
end Go.Proofs.Ytgefohjickhldaa.D
