/- Writing a datagram: the document's Write. -/
import Derived.Test.YtpkkcpglbjbgfaaFwLem
import Derived.Test.YtpkkcpglbjbgfaaF14r
namespace Go.Proofs.Ytpkkcpglbjbgfaa.D
open Go.Fw Go.RowKit

theorem f22 : E.funcs 22 = some Try.f22 := by kernel_rfl
theorem write22_bad (g : Gr) (h : okG g = false) : Fun E 22 [gv g] (.tuple #[.string ByteArray.empty, .int .i64 1]) := by
  refine Fun.of f22 rfl (of_decide_eq_true (by kernel_rfl)) rfl ?_
  have v := valid23 g
  have n1 : (!okG g) = true := by rw [h]; rfl
  refine Wp.seq ?_
  refine Wp.text ?_
  refine WpOps.made 1 (Value.pointer (some (Addr.mk 0 0 none))) (Blk.mk 32 true [Value.iface 3 (Value.iface (List.length (Gr.fr g)) (Value.iface (Gr.fx g) (Value.agg (List.toArray (List.map (fun n => Value.int IntKind.i64 n) (Gr.fr g)))))), Value.iface 3 (Value.iface (List.length (Gr.to g)) (Value.iface (Gr.tx g) (Value.agg (List.toArray (List.map (fun n => Value.int IntKind.i64 n) (Gr.to g)))))), Value.int IntKind.i64 (Gr.number g), Value.int IntKind.i64 (Gr.life g), Value.int IntKind.i64 (Gr.at' g), Value.int IntKind.i64 (Gr.total g), Value.int IntKind.i64 (Gr.report g), Value.bool (Gr.more g), Value.bool (Gr.may g), Value.bool (Gr.wants g), Value.string (Gr.data g)]) (by kernel_rfl) (by kernel_rfl) (by kernel_rfl) ?_ (fun cf => (by kernel_rfl))
  refine WpOps.keep 2 (Value.string (ByteArray.mk #[])) (by kernel_rfl) (by kernel_rfl) (by kernel_rfl) ?_ (fun cf => (by kernel_rfl))
  refine WpOps.keep 3 (Value.int IntKind.i64 0) (by kernel_rfl) (by kernel_rfl) (by kernel_rfl) ?_ (fun cf => (by kernel_rfl))
  refine WpOps.nil ?_
  refine thenK_at ?_
  refine Wp.seq ?_
  refine Wp.seq ?_
  refine Wp.text ?_
  refine WpOps.keep 8 (Value.agg #[Value.iface 3 (Value.iface (List.length (Gr.fr g)) (Value.iface (Gr.fx g) (Value.agg (List.toArray (List.map (fun n => Value.int IntKind.i64 n) (Gr.fr g)))))), Value.iface 3 (Value.iface (List.length (Gr.to g)) (Value.iface (Gr.tx g) (Value.agg (List.toArray (List.map (fun n => Value.int IntKind.i64 n) (Gr.to g)))))), Value.int IntKind.i64 (Gr.number g), Value.int IntKind.i64 (Gr.life g), Value.int IntKind.i64 (Gr.at' g), Value.int IntKind.i64 (Gr.total g), Value.int IntKind.i64 (Gr.report g), Value.bool (Gr.more g), Value.bool (Gr.may g), Value.bool (Gr.wants g), Value.string (Gr.data g)]) (by kernel_rfl) (by kernel_rfl) (by kernel_rfl) ?_ (fun cf => (by kernel_rfl))
  refine WpOps.framed 9 23 [Value.agg #[Value.iface 3 (Value.iface (List.length (Gr.fr g)) (Value.iface (Gr.fx g) (Value.agg (List.toArray (List.map (fun n => Value.int IntKind.i64 n) (Gr.fr g)))))), Value.iface 3 (Value.iface (List.length (Gr.to g)) (Value.iface (Gr.tx g) (Value.agg (List.toArray (List.map (fun n => Value.int IntKind.i64 n) (Gr.to g)))))), Value.int IntKind.i64 (Gr.number g), Value.int IntKind.i64 (Gr.life g), Value.int IntKind.i64 (Gr.at' g), Value.int IntKind.i64 (Gr.total g), Value.int IntKind.i64 (Gr.report g), Value.bool (Gr.more g), Value.bool (Gr.may g), Value.bool (Gr.wants g), Value.string (Gr.data g)]] (by kernel_rfl) (by kernel_rfl) (by kernel_rfl) (by kernel_rfl) (by kernel_rfl) (fun cf => (by kernel_rfl)) ?_
  refine WpFun.of (v) ?_
  refine WpOps.keep 10 (Value.bool true) (by kernel_rfl) (by kernel_rfl) (by kernel_rfl) ?_ (fun cf => by_fact n1 ((by kernel_rfl)))
  refine WpOps.nil ?_
  refine thenK_at ?_
  refine Wp.on (by kernel_rfl) ?_
  refine Wp.seq ?_
  refine Wp.text ?_
  refine WpOps.keep 2 (Value.string (ByteArray.mk #[])) (by kernel_rfl) (by kernel_rfl) (by kernel_rfl) ?_ (fun cf => (by kernel_rfl))
  refine WpOps.keep 3 (Value.int IntKind.i64 1) (by kernel_rfl) (by kernel_rfl) (by kernel_rfl) ?_ (fun cf => (by kernel_rfl))
  refine WpOps.nil ?_
  refine thenK_at ?_
  refine Wp.ret ?_
  refine thenK_ret ?_
  refine endK_retn [Value.string (ByteArray.mk #[]), Value.int IntKind.i64 1] (Value.tuple #[Value.string (ByteArray.mk #[]), Value.int IntKind.i64 1]) (by kernel_rfl) (by kernel_rfl) ?_
  kernel_rfl
def str (L : List Int) : ByteArray := ⟨((71 : UInt8) :: bs L).toArray⟩
theorem twoR_b2 (n : Int) (hn : 0 ≤ n ∧ n < 65536) : (twoR n).data.toList = b2 n := by
  show [_, _] = [_, _]
  have e1 : n.tdiv 256 = n / 256 := Int.tdiv_eq_ediv_of_nonneg hn.1
  have e2 : n.tmod 256 = n % 256 := Int.tmod_eq_emod_of_nonneg hn.1
  have e3 : IntKind.u8.wrap (IntKind.i64.wrap (n.tdiv 256)) = (UInt8.ofNat (n.toNat / 256)).toNat := by
    rw [e1, wr _ (by omega) (by omega)]
    exact u8c _ _ (by omega) (by omega)
  have e4 : IntKind.u8.wrap (n.tmod 256) = (UInt8.ofNat n.toNat).toNat := by
    rw [e2]
    exact u8c _ _ (by omega) (by omega)
  rw [e3, e4]
  simp only [Int.toNat_natCast, UInt8.ofNat_toNat]
theorem str_app (L : List Int) (n : Int) (hn : 0 ≤ n ∧ n < 65536) : str L ++ twoR n = str (L ++ [n]) := by
  apply ByteArray.ext
  apply Array.toList_inj.1
  rw [ByteArray.data_append, Array.toList_append, twoR_b2 n hn]
  show (71 :: bs L) ++ b2 n = 71 :: bs (L ++ [n])
  rw [bs_app]
  rfl
theorem str_size (L : List Int) : (str L).size = 1 + 2 * L.length := by
  have := bs_len L
  show ((71 : UInt8) :: bs L).length = _
  rw [List.length_cons]
  omega
def nl0 (g : Gr) : List Int := [g.number, g.life, g.at', g.total, g.report, flagsI g]
def lst (g : Gr) (k : Nat) : List Int := if k = 0 then g.fr else g.to
def lx (g : Gr) (k : Nat) : Nat := if k = 0 then g.fx else g.tx
def nlk (g : Gr) : Nat → List Int
  | 0 => nl0 g
  | k + 1 => nlk g k ++ (((lst g k).length : Int) :: lst g k)
theorem nlk2 (g : Gr) : nlk g 2 = nl g := by
  show (nl0 g ++ _) ++ _ = _
  simp only [nl, nl0, head7, lst, List.append_assoc, List.cons_append, List.nil_append]
  rfl
theorem flags_sum (g : Gr) : IntKind.i64.wrap (IntKind.i64.wrap ((if g.more then 1 else 0) + (if g.may then 2 else 0)) + (if g.wants then 4 else 0)) = flagsI g := by
  unfold flagsI
  cases g.more <;> cases g.may <;> cases g.wants <;> rfl
theorem str0 (g : Gr) (f : Fits g) : (((((((⟨#[71]⟩ : ByteArray) ++ twoR g.number) ++ twoR g.life) ++ twoR g.at') ++ twoR g.total) ++ twoR g.report) ++ twoR (IntKind.i64.wrap (IntKind.i64.wrap ((if g.more then 1 else 0) + (if g.may then 2 else 0)) + (if g.wants then 4 else 0)))) = str (nl0 g) := by
  obtain ⟨f0, f1, f2, t0, t1, t2, n', l, a, t, r, d⟩ := f
  have := flags_fits g
  rw [flags_sum]
  show ((((((str [] ++ _) ++ _) ++ _) ++ _) ++ _) ++ _) = _
  rw [str_app _ _ (by omega), str_app _ _ (by omega), str_app _ _ (by omega), str_app _ _ (by omega), str_app _ _ (by omega), str_app _ _ (by omega)]
  rfl
theorem twoR_size (n : Int) : (twoR n).size = 2 := rfl
theorem lst_at (g : Gr) (k : Nat) (hk : k < 2) : [sl g.fx g.fr, sl g.tx g.to][0 + ((k : Int)).toNat * 1]? = some (sl (lx g k) (lst g k)) := by
  match k, hk with
  | 0, _ => rfl
  | 1, _ => rfl
theorem lst_len (g : Gr) (k : Nat) (f : Fits g) : (lst g k).length ≤ 10 := by
  unfold lst
  split
  · exact f.f1
  · exact f.t1
theorem lst_in (g : Gr) (k : Nat) (f : Fits g) : ∀ n ∈ lst g k, 0 ≤ n ∧ n < 65536 := by
  unfold lst
  split
  · intro n hn; have := f.f2 n hn; omega
  · intro n hn; have := f.t2 n hn; omega
theorem nlk_len (g : Gr) (k : Nat) (f : Fits g) (hk : k ≤ 2) : (nlk g k).length ≤ 100 := by
  have h0 := lst_len g 0 f
  have h1 := lst_len g 1 f
  match k, hk with
  | 0, _ => exact (by decide : 6 ≤ 100)
  | 1, _ => simp only [nlk, nl0, List.length_append, List.length_cons, List.length_nil]; omega
  | 2, _ => simp only [nlk, nl0, List.length_append, List.length_cons, List.length_nil]; omega
theorem write22_ok (g : Gr) (h : okG g = true) : Fun E 22 [gv g] (.tuple #[.string (wrt g), .int .i64 0]) := by
  refine Fun.of f22 rfl (of_decide_eq_true (by kernel_rfl)) rfl ?_
  have v := valid23 g
  have n1 : (!okG g) = false := by rw [h]; rfl
  have F := fits h
  have ⟨f0, f1, f2, t0, t1, t2, n', l, a, t, r, d⟩ := F
  have c1 := two52
  have c2 := bit53
  have r0 : ((1 + (twoR g.number).size : Nat) : Int) ≤ 9223372036854775807 := by
    rw [twoR_size]
    decide
  have r1 : ((((⟨#[71]⟩ : ByteArray) ++ twoR g.number).size + (twoR g.life).size : Nat) : Int) ≤ 9223372036854775807 := by
    simp only [ByteArray.size_append, twoR_size]
    decide
  have r2 : (((((⟨#[71]⟩ : ByteArray) ++ twoR g.number) ++ twoR g.life).size + (twoR g.at').size : Nat) : Int) ≤ 9223372036854775807 := by
    simp only [ByteArray.size_append, twoR_size]
    decide
  have r3 : ((((((⟨#[71]⟩ : ByteArray) ++ twoR g.number) ++ twoR g.life) ++ twoR g.at').size + (twoR g.total).size : Nat) : Int) ≤ 9223372036854775807 := by
    simp only [ByteArray.size_append, twoR_size]
    decide
  have r4 : (((((((⟨#[71]⟩ : ByteArray) ++ twoR g.number) ++ twoR g.life) ++ twoR g.at') ++ twoR g.total).size + (twoR g.report).size : Nat) : Int) ≤ 9223372036854775807 := by
    simp only [ByteArray.size_append, twoR_size]
    decide
  have r5 : ((((((((⟨#[71]⟩ : ByteArray) ++ twoR g.number) ++ twoR g.life) ++ twoR g.at') ++ twoR g.total) ++ twoR g.report).size + (twoR (IntKind.i64.wrap (IntKind.i64.wrap ((if g.more then 1 else 0) + (if g.may then 2 else 0)) + (if g.wants then 4 else 0)))).size : Nat) : Int) ≤ 9223372036854775807 := by
    simp only [ByteArray.size_append, twoR_size]
    decide
  refine Wp.seq ?_
  refine Wp.text ?_
  refine WpOps.made 1 (Value.pointer (some (Addr.mk 0 0 none))) (Blk.mk 32 true [Value.iface 3 (Value.iface (List.length (Gr.fr g)) (Value.iface (Gr.fx g) (Value.agg (List.toArray (List.map (fun n => Value.int IntKind.i64 n) (Gr.fr g)))))), Value.iface 3 (Value.iface (List.length (Gr.to g)) (Value.iface (Gr.tx g) (Value.agg (List.toArray (List.map (fun n => Value.int IntKind.i64 n) (Gr.to g)))))), Value.int IntKind.i64 (Gr.number g), Value.int IntKind.i64 (Gr.life g), Value.int IntKind.i64 (Gr.at' g), Value.int IntKind.i64 (Gr.total g), Value.int IntKind.i64 (Gr.report g), Value.bool (Gr.more g), Value.bool (Gr.may g), Value.bool (Gr.wants g), Value.string (Gr.data g)]) (by kernel_rfl) (by kernel_rfl) (by kernel_rfl) ?_ (fun cf => (by kernel_rfl))
  refine WpOps.keep 2 (Value.string (ByteArray.mk #[])) (by kernel_rfl) (by kernel_rfl) (by kernel_rfl) ?_ (fun cf => (by kernel_rfl))
  refine WpOps.keep 3 (Value.int IntKind.i64 0) (by kernel_rfl) (by kernel_rfl) (by kernel_rfl) ?_ (fun cf => (by kernel_rfl))
  refine WpOps.nil ?_
  refine thenK_at ?_
  refine Wp.seq ?_
  refine Wp.seq ?_
  refine Wp.text ?_
  refine WpOps.keep 8 (Value.agg #[Value.iface 3 (Value.iface (List.length (Gr.fr g)) (Value.iface (Gr.fx g) (Value.agg (List.toArray (List.map (fun n => Value.int IntKind.i64 n) (Gr.fr g)))))), Value.iface 3 (Value.iface (List.length (Gr.to g)) (Value.iface (Gr.tx g) (Value.agg (List.toArray (List.map (fun n => Value.int IntKind.i64 n) (Gr.to g)))))), Value.int IntKind.i64 (Gr.number g), Value.int IntKind.i64 (Gr.life g), Value.int IntKind.i64 (Gr.at' g), Value.int IntKind.i64 (Gr.total g), Value.int IntKind.i64 (Gr.report g), Value.bool (Gr.more g), Value.bool (Gr.may g), Value.bool (Gr.wants g), Value.string (Gr.data g)]) (by kernel_rfl) (by kernel_rfl) (by kernel_rfl) ?_ (fun cf => (by kernel_rfl))
  refine WpOps.framed 9 23 [Value.agg #[Value.iface 3 (Value.iface (List.length (Gr.fr g)) (Value.iface (Gr.fx g) (Value.agg (List.toArray (List.map (fun n => Value.int IntKind.i64 n) (Gr.fr g)))))), Value.iface 3 (Value.iface (List.length (Gr.to g)) (Value.iface (Gr.tx g) (Value.agg (List.toArray (List.map (fun n => Value.int IntKind.i64 n) (Gr.to g)))))), Value.int IntKind.i64 (Gr.number g), Value.int IntKind.i64 (Gr.life g), Value.int IntKind.i64 (Gr.at' g), Value.int IntKind.i64 (Gr.total g), Value.int IntKind.i64 (Gr.report g), Value.bool (Gr.more g), Value.bool (Gr.may g), Value.bool (Gr.wants g), Value.string (Gr.data g)]] (by kernel_rfl) (by kernel_rfl) (by kernel_rfl) (by kernel_rfl) (by kernel_rfl) (fun cf => (by kernel_rfl)) ?_
  refine WpFun.of (v) ?_
  refine WpOps.keep 10 (Value.bool false) (by kernel_rfl) (by kernel_rfl) (by kernel_rfl) ?_ (fun cf => by_fact n1 ((by kernel_rfl)))
  refine WpOps.nil ?_
  refine thenK_at ?_
  refine Wp.off (by kernel_rfl) ?_
  refine Wp.skip ?_
  refine thenK_at ?_
  refine Wp.seq ?_
  refine Wp.region (by kernel_rfl) ?_
  refine WpOps.keep 11 (Value.pointer (some (Addr.mk 0 2 none))) (by kernel_rfl) (by kernel_rfl) (by kernel_rfl) ?_ (fun cf => (by kernel_rfl))
  refine WpOps.keep 12 (Value.int IntKind.i64 (Gr.number g)) (by kernel_rfl) (by kernel_rfl) (by kernel_rfl) ?_ (fun cf => (by kernel_rfl))
  refine WpOps.framed 13 52 [Value.int IntKind.i64 (Gr.number g)] (by kernel_rfl) (by kernel_rfl) (by kernel_rfl) (by kernel_rfl) (by kernel_rfl) (fun cf => (by kernel_rfl)) ?_
  refine WpFun.of (c1 _) ?_
  refine WpOps.keep 14 (Value.string (ByteArray.mk #[71] ++ twoR (Gr.number g))) (by kernel_rfl) (by kernel_rfl) (by kernel_rfl) ?_ (fun cf => o_add r0 (by kernel_rfl) (by kernel_rfl))
  refine WpOps.keep 15 (Value.pointer (some (Addr.mk 0 3 none))) (by kernel_rfl) (by kernel_rfl) (by kernel_rfl) ?_ (fun cf => (by kernel_rfl))
  refine WpOps.keep 16 (Value.int IntKind.i64 (Gr.life g)) (by kernel_rfl) (by kernel_rfl) (by kernel_rfl) ?_ (fun cf => (by kernel_rfl))
  refine WpOps.framed 17 52 [Value.int IntKind.i64 (Gr.life g)] (by kernel_rfl) (by kernel_rfl) (by kernel_rfl) (by kernel_rfl) (by kernel_rfl) (fun cf => (by kernel_rfl)) ?_
  refine WpFun.of (c1 _) ?_
  refine WpOps.keep 18 (Value.string (ByteArray.mk #[71] ++ twoR (Gr.number g) ++ twoR (Gr.life g))) (by kernel_rfl) (by kernel_rfl) (by kernel_rfl) ?_ (fun cf => o_add r1 (by kernel_rfl) (by kernel_rfl))
  refine WpOps.keep 19 (Value.pointer (some (Addr.mk 0 4 none))) (by kernel_rfl) (by kernel_rfl) (by kernel_rfl) ?_ (fun cf => (by kernel_rfl))
  refine WpOps.keep 20 (Value.int IntKind.i64 (Gr.at' g)) (by kernel_rfl) (by kernel_rfl) (by kernel_rfl) ?_ (fun cf => (by kernel_rfl))
  refine WpOps.framed 21 52 [Value.int IntKind.i64 (Gr.at' g)] (by kernel_rfl) (by kernel_rfl) (by kernel_rfl) (by kernel_rfl) (by kernel_rfl) (fun cf => (by kernel_rfl)) ?_
  refine WpFun.of (c1 _) ?_
  refine WpOps.keep 22 (Value.string (ByteArray.mk #[71] ++ twoR (Gr.number g) ++ twoR (Gr.life g) ++ twoR (Gr.at' g))) (by kernel_rfl) (by kernel_rfl) (by kernel_rfl) ?_ (fun cf => o_add r2 (by kernel_rfl) (by kernel_rfl))
  refine WpOps.keep 23 (Value.pointer (some (Addr.mk 0 5 none))) (by kernel_rfl) (by kernel_rfl) (by kernel_rfl) ?_ (fun cf => (by kernel_rfl))
  refine WpOps.keep 24 (Value.int IntKind.i64 (Gr.total g)) (by kernel_rfl) (by kernel_rfl) (by kernel_rfl) ?_ (fun cf => (by kernel_rfl))
  refine WpOps.framed 25 52 [Value.int IntKind.i64 (Gr.total g)] (by kernel_rfl) (by kernel_rfl) (by kernel_rfl) (by kernel_rfl) (by kernel_rfl) (fun cf => (by kernel_rfl)) ?_
  refine WpFun.of (c1 _) ?_
  refine WpOps.keep 26 (Value.string (ByteArray.mk #[71] ++ twoR (Gr.number g) ++ twoR (Gr.life g) ++ twoR (Gr.at' g) ++ twoR (Gr.total g))) (by kernel_rfl) (by kernel_rfl) (by kernel_rfl) ?_ (fun cf => o_add r3 (by kernel_rfl) (by kernel_rfl))
  refine WpOps.keep 27 (Value.pointer (some (Addr.mk 0 6 none))) (by kernel_rfl) (by kernel_rfl) (by kernel_rfl) ?_ (fun cf => (by kernel_rfl))
  refine WpOps.keep 28 (Value.int IntKind.i64 (Gr.report g)) (by kernel_rfl) (by kernel_rfl) (by kernel_rfl) ?_ (fun cf => (by kernel_rfl))
  refine WpOps.framed 29 52 [Value.int IntKind.i64 (Gr.report g)] (by kernel_rfl) (by kernel_rfl) (by kernel_rfl) (by kernel_rfl) (by kernel_rfl) (fun cf => (by kernel_rfl)) ?_
  refine WpFun.of (c1 _) ?_
  refine WpOps.keep 30 (Value.string (ByteArray.mk #[71] ++ twoR (Gr.number g) ++ twoR (Gr.life g) ++ twoR (Gr.at' g) ++ twoR (Gr.total g) ++ twoR (Gr.report g))) (by kernel_rfl) (by kernel_rfl) (by kernel_rfl) ?_ (fun cf => o_add r4 (by kernel_rfl) (by kernel_rfl))
  refine WpOps.keep 31 (Value.pointer (some (Addr.mk 0 7 none))) (by kernel_rfl) (by kernel_rfl) (by kernel_rfl) ?_ (fun cf => (by kernel_rfl))
  refine WpOps.keep 32 (Value.bool (Gr.more g)) (by kernel_rfl) (by kernel_rfl) (by kernel_rfl) ?_ (fun cf => (by kernel_rfl))
  refine WpOps.framed 33 53 [Value.bool (Gr.more g), Value.int IntKind.i64 1] (by kernel_rfl) (by kernel_rfl) (by kernel_rfl) (by kernel_rfl) (by kernel_rfl) (fun cf => (by kernel_rfl)) ?_
  refine WpFun.of (c2 _ _) ?_
  refine WpOps.keep 34 (Value.pointer (some (Addr.mk 0 8 none))) (by kernel_rfl) (by kernel_rfl) (by kernel_rfl) ?_ (fun cf => (by kernel_rfl))
  refine WpOps.keep 35 (Value.bool (Gr.may g)) (by kernel_rfl) (by kernel_rfl) (by kernel_rfl) ?_ (fun cf => (by kernel_rfl))
  refine WpOps.framed 36 53 [Value.bool (Gr.may g), Value.int IntKind.i64 2] (by kernel_rfl) (by kernel_rfl) (by kernel_rfl) (by kernel_rfl) (by kernel_rfl) (fun cf => (by kernel_rfl)) ?_
  refine WpFun.of (c2 _ _) ?_
  refine WpOps.keep 37 (Value.int IntKind.i64 (IntKind.wrap IntKind.i64 ((if Gr.more g = true then 1 else 0) + if Gr.may g = true then 2 else 0))) (by kernel_rfl) (by kernel_rfl) (by kernel_rfl) ?_ (fun cf => (by kernel_rfl))
  refine WpOps.keep 38 (Value.pointer (some (Addr.mk 0 9 none))) (by kernel_rfl) (by kernel_rfl) (by kernel_rfl) ?_ (fun cf => (by kernel_rfl))
  refine WpOps.keep 39 (Value.bool (Gr.wants g)) (by kernel_rfl) (by kernel_rfl) (by kernel_rfl) ?_ (fun cf => (by kernel_rfl))
  refine WpOps.framed 40 53 [Value.bool (Gr.wants g), Value.int IntKind.i64 4] (by kernel_rfl) (by kernel_rfl) (by kernel_rfl) (by kernel_rfl) (by kernel_rfl) (fun cf => (by kernel_rfl)) ?_
  refine WpFun.of (c2 _ _) ?_
  refine WpOps.keep 41 (Value.int IntKind.i64 (IntKind.wrap IntKind.i64 (IntKind.wrap IntKind.i64 ((if Gr.more g = true then 1 else 0) + if Gr.may g = true then 2 else 0) + if Gr.wants g = true then 4 else 0))) (by kernel_rfl) (by kernel_rfl) (by kernel_rfl) ?_ (fun cf => (by kernel_rfl))
  refine WpOps.framed 42 52 [Value.int IntKind.i64 (IntKind.wrap IntKind.i64 (IntKind.wrap IntKind.i64 ((if Gr.more g = true then 1 else 0) + if Gr.may g = true then 2 else 0) + if Gr.wants g = true then 4 else 0))] (by kernel_rfl) (by kernel_rfl) (by kernel_rfl) (by kernel_rfl) (by kernel_rfl) (fun cf => (by kernel_rfl)) ?_
  refine WpFun.of (c1 _) ?_
  refine WpOps.keep 43 (Value.string (ByteArray.mk #[71] ++ twoR (Gr.number g) ++ twoR (Gr.life g) ++ twoR (Gr.at' g) ++ twoR (Gr.total g) ++ twoR (Gr.report g) ++ twoR (IntKind.wrap IntKind.i64 (IntKind.wrap IntKind.i64 ((if Gr.more g = true then 1 else 0) + if Gr.may g = true then 2 else 0) + if Gr.wants g = true then 4 else 0)))) (by kernel_rfl) (by kernel_rfl) (by kernel_rfl) ?_ (fun cf => o_add r5 (by kernel_rfl) (by kernel_rfl))
  refine WpOps.keep 4 (Value.string (ByteArray.mk #[71] ++ twoR (Gr.number g) ++ twoR (Gr.life g) ++ twoR (Gr.at' g) ++ twoR (Gr.total g) ++ twoR (Gr.report g) ++ twoR (IntKind.wrap IntKind.i64 (IntKind.wrap IntKind.i64 ((if Gr.more g = true then 1 else 0) + if Gr.may g = true then 2 else 0) + if Gr.wants g = true then 4 else 0)))) (by kernel_rfl) (by kernel_rfl) (by kernel_rfl) ?_ (fun cf => (by kernel_rfl))
  refine WpOps.nil ?_
  refine thenK_at ?_
  refine Wp.seq ?_
  refine Wp.seq ?_
  refine Wp.text ?_
  refine WpOps.keep 44 (Value.pointer (some (Addr.mk 0 0 none))) (by kernel_rfl) (by kernel_rfl) (by kernel_rfl) ?_ (fun cf => (by kernel_rfl))
  refine WpOps.keep 45 (Value.iface 3 (Value.iface (List.length (Gr.fr g)) (Value.iface (Gr.fx g) (Value.agg (List.toArray (List.map (fun n => Value.int IntKind.i64 n) (Gr.fr g))))))) (by kernel_rfl) (by kernel_rfl) (by kernel_rfl) ?_ (fun cf => (by kernel_rfl))
  refine WpOps.keep 46 (Value.pointer (some (Addr.mk 0 1 none))) (by kernel_rfl) (by kernel_rfl) (by kernel_rfl) ?_ (fun cf => (by kernel_rfl))
  refine WpOps.keep 47 (Value.iface 3 (Value.iface (List.length (Gr.to g)) (Value.iface (Gr.tx g) (Value.agg (List.toArray (List.map (fun n => Value.int IntKind.i64 n) (Gr.to g))))))) (by kernel_rfl) (by kernel_rfl) (by kernel_rfl) ?_ (fun cf => (by kernel_rfl))
  refine WpOps.made 48 (Value.slice (some (Addr.mk 1 0 none)) 2 2) (Blk.mk 22 true [Value.iface 3 (Value.iface (List.length (Gr.fr g)) (Value.iface (Gr.fx g) (Value.agg (List.toArray (List.map (fun n => Value.int IntKind.i64 n) (Gr.fr g)))))), Value.iface 3 (Value.iface (List.length (Gr.to g)) (Value.iface (Gr.tx g) (Value.agg (List.toArray (List.map (fun n => Value.int IntKind.i64 n) (Gr.to g))))))]) (by kernel_rfl) (by kernel_rfl) (by kernel_rfl) ?_ (fun cf => (by kernel_rfl))
  refine WpOps.keep 49 (Value.int IntKind.i64 (↑2 : Int)) (by kernel_rfl) (by kernel_rfl) (by kernel_rfl) ?_ (fun cf => (by kernel_rfl))
  refine WpOps.keep 50 (Value.int IntKind.i64 0) (by kernel_rfl) (by kernel_rfl) (by kernel_rfl) ?_ (fun cf => (by kernel_rfl))
  refine WpOps.nil ?_
  refine thenK_at ?_
  refine Wp.block ?_
  refine Wp.loop (G := Nat) (fun k => layj [(1, .pointer (some ⟨0, 0, none⟩)), (4, .string (str (nlk g k))), (48, .slice (some ⟨1, 0, none⟩) 2 2), (49, .int .i64 2), (50, .int .i64 k)]) (fun _ => heapOf [⟨32, true, gc g⟩, ⟨22, true, [sl g.fx g.fr, sl g.tx g.to]⟩]) (fun k => 2 - k) (fun k => k ≤ 2) 0
    (View.of [0, 1] [⟨32, true, gc g⟩, ⟨22, true, [sl g.fx g.fr, sl g.tx g.to]⟩] _ (by decide) rfl ⟨⟨gc g, by kernel_rfl, CellsOk.eq rfl (gc_flat g)⟩, ⟨_, by kernel_rfl, CellsOk.eq rfl rfl⟩, trivial⟩
      ⟨⟨by kernel_rfl, rfl⟩, ⟨congrArg Value.string (str0 g F), rfl⟩, ⟨by kernel_rfl, rfl⟩, ⟨by kernel_rfl, rfl⟩, ⟨by kernel_rfl, rfl⟩, trivial⟩) (Nat.zero_le _) ?_
  intro k hk
  refine Wp.seq ?_
  refine Wp.text ?_
  refine WpOps.keep 51 (Value.bool (decide ((↑k : Int) < 2))) (by kernel_rfl) (by kernel_rfl) (by kernel_rfl) ?_ (fun cf => (by kernel_rfl))
  refine WpOps.nil ?_
  refine thenK_at ?_
  refine Wp.seq ?_
  refine Wp.split (decide ((↑k : Int) < 2)) (by kernel_rfl) (fun hc => ?_) (fun hc => ?_)
  · have hlt : (k : Int) < 2 := of_decide_eq_true hc
    have h0 : 0 ≤ (k : Int) ∧ (k : Int) < ((2 : Nat) : Int) := ⟨Int.natCast_nonneg _, hlt⟩
    have hv : [sl g.fx g.fr, sl g.tx g.to][0 + ((k : Int)).toNat * 1]? = some (sl (lx g k) (lst g k)) := lst_at g k (by omega)
    have kl := lst_len g k F
    have rs : (((str (nlk g k)).size + (twoR ((lst g k).length : Int)).size : Nat) : Int) ≤ 9223372036854775807 := by
      have := nlk_len g k F (by omega)
      rw [str_size, twoR_size]
      omega
    have kn := nlk_len g k F (by omega)
    have sa := str_app (nlk g k) ((lst g k).length : Int) (by omega)
    refine Wp.skip ?_
    refine thenK_at ?_
    refine Wp.seq ?_
    refine Wp.block ?_
    refine Wp.seq ?_
    refine Wp.text ?_
    refine WpOps.keep 52 (Value.pointer (some (Addr.mk 1 (0 + Int.toNat (↑k : Int) * 1) none))) (by kernel_rfl) (by kernel_rfl) (by kernel_rfl) ?_ (fun cf => o_indexAddr 22 (2) h0 (by kernel_rfl) (by kernel_rfl) (by kernel_rfl) (by kernel_rfl))
    refine WpOps.keep 53 (Value.iface 3 (Value.iface (List.length (lst g k)) (Value.iface (lx g k) (Value.agg (List.toArray (List.map (fun n => Value.int IntKind.i64 n) (lst g k))))))) (by kernel_rfl) (by kernel_rfl) (by kernel_rfl) ?_ (fun cf => o_load1 1 (0 + Int.toNat (↑k : Int) * 1) hv (by kernel_rfl) (by kernel_rfl) (by kernel_rfl))
    refine WpOps.keep 6 (Value.iface 3 (Value.iface (List.length (lst g k)) (Value.iface (lx g k) (Value.agg (List.toArray (List.map (fun n => Value.int IntKind.i64 n) (lst g k))))))) (by kernel_rfl) (by kernel_rfl) (by kernel_rfl) ?_ (fun cf => (by kernel_rfl))
    refine WpOps.nil ?_
    refine thenK_at ?_
    refine Wp.seq ?_
    refine Wp.text ?_
    refine WpOps.keep 54 (Value.string (str (nlk g k))) (by kernel_rfl) (by kernel_rfl) (by kernel_rfl) ?_ (fun cf => (by kernel_rfl))
    refine WpOps.keep 55 (Value.iface 3 (Value.iface (List.length (lst g k)) (Value.iface (lx g k) (Value.agg (List.toArray (List.map (fun n => Value.int IntKind.i64 n) (lst g k))))))) (by kernel_rfl) (by kernel_rfl) (by kernel_rfl) ?_ (fun cf => (by kernel_rfl))
    refine WpOps.keep 56 (Value.int IntKind.i64 (↑(List.length (lst g k)) : Int)) (by kernel_rfl) (by kernel_rfl) (by kernel_rfl) ?_ (fun cf => (by kernel_rfl))
    refine WpOps.framed 57 52 [Value.int IntKind.i64 (↑(List.length (lst g k)) : Int)] (by kernel_rfl) (by kernel_rfl) (by kernel_rfl) (by kernel_rfl) (by kernel_rfl) (fun cf => (by kernel_rfl)) ?_
    refine WpFun.of (c1 _) ?_
    refine WpOps.keep 58 (Value.string (str (nlk g k) ++ twoR (↑(List.length (lst g k)) : Int))) (by kernel_rfl) (by kernel_rfl) (by kernel_rfl) ?_ (fun cf => o_add rs (by kernel_rfl) (by kernel_rfl))
    refine WpOps.keep 4 (Value.string (str (nlk g k) ++ twoR (↑(List.length (lst g k)) : Int))) (by kernel_rfl) (by kernel_rfl) (by kernel_rfl) ?_ (fun cf => (by kernel_rfl))
    refine WpOps.nil ?_
    refine thenK_at ?_
    refine Wp.seq ?_
    refine Wp.text ?_
    refine WpOps.keep 7 (Value.int IntKind.i64 0) (by kernel_rfl) (by kernel_rfl) (by kernel_rfl) ?_ (fun cf => (by kernel_rfl))
    refine WpOps.nil ?_
    refine thenK_at ?_
    refine Wp.block ?_
    refine Wp.loop (G := Nat) (fun i => layj [(1, .pointer (some ⟨0, 0, none⟩)), (4, .string (str (nlk g k ++ (((lst g k).length : Int) :: (lst g k).take i)))), (6, sl (lx g k) (lst g k)), (7, .int .i64 i), (48, .slice (some ⟨1, 0, none⟩) 2 2), (49, .int .i64 2), (50, .int .i64 k)]) (fun _ => heapOf [⟨32, true, gc g⟩, ⟨22, true, [sl g.fx g.fr, sl g.tx g.to]⟩]) (fun i => (lst g k).length - i) (fun i => i ≤ (lst g k).length) 0
      (View.of [0, 1] [⟨32, true, gc g⟩, ⟨22, true, [sl g.fx g.fr, sl g.tx g.to]⟩] _ (by decide) rfl ⟨⟨gc g, by kernel_rfl, CellsOk.eq rfl (gc_flat g)⟩, ⟨_, by kernel_rfl, CellsOk.eq rfl rfl⟩, trivial⟩
        ⟨⟨by kernel_rfl, rfl⟩, ⟨congrArg Value.string sa, rfl⟩, ⟨by kernel_rfl, rfl⟩, ⟨by kernel_rfl, rfl⟩, ⟨by kernel_rfl, rfl⟩, ⟨by kernel_rfl, rfl⟩, ⟨by kernel_rfl, rfl⟩, trivial⟩) (Nat.zero_le _) ?_
    intro i hi
    refine Wp.seq ?_
    refine Wp.seq ?_
    refine Wp.text ?_
    refine WpOps.keep 59 (Value.int IntKind.i64 (↑i : Int)) (by kernel_rfl) (by kernel_rfl) (by kernel_rfl) ?_ (fun cf => (by kernel_rfl))
    refine WpOps.keep 60 (Value.iface 3 (Value.iface (List.length (lst g k)) (Value.iface (lx g k) (Value.agg (List.toArray (List.map (fun n => Value.int IntKind.i64 n) (lst g k))))))) (by kernel_rfl) (by kernel_rfl) (by kernel_rfl) ?_ (fun cf => (by kernel_rfl))
    refine WpOps.keep 61 (Value.int IntKind.i64 (↑(List.length (lst g k)) : Int)) (by kernel_rfl) (by kernel_rfl) (by kernel_rfl) ?_ (fun cf => (by kernel_rfl))
    refine WpOps.keep 62 (Value.bool (decide ((↑i : Int) < (↑(List.length (lst g k)) : Int)))) (by kernel_rfl) (by kernel_rfl) (by kernel_rfl) ?_ (fun cf => (by kernel_rfl))
    refine WpOps.nil ?_
    refine thenK_at ?_
    refine Wp.split (decide ((↑i : Int) < (↑(List.length (lst g k)) : Int))) (by kernel_rfl) (fun hd => ?_) (fun hd => ?_)
    · have hlt2 : (i : Int) < (lst g k).length := of_decide_eq_true hd
      have hi2 : i < (lst g k).length := by omega
      have h02 : 0 ≤ (i : Int) ∧ (i : Int) < (lst g k).length := ⟨Int.natCast_nonneg _, hlt2⟩
      have hv2 := sl_at (lst g k) i hi2
      have hm : (lst g k).getD i 0 ∈ lst g k := by rw [List.getD_eq_getElem?_getD, List.getElem?_eq_getElem hi2]; exact List.getElem_mem _
      have hn2 := lst_in g k F _ hm
      have rs2 : (((str (nlk g k ++ (((lst g k).length : Int) :: (lst g k).take i))).size + (twoR ((lst g k).getD i 0)).size : Nat) : Int) ≤ 9223372036854775807 := by
        rw [str_size, twoR_size]
        simp only [List.length_append, List.length_cons, List.length_take]
        omega
      have e : (lst g k).take (i + 1) = (lst g k).take i ++ [(lst g k).getD i 0] := by
        rw [List.take_add_one, List.getD_eq_getElem?_getD, List.getElem?_eq_getElem hi2]
        rfl
      have sa2 : str (nlk g k ++ (((lst g k).length : Int) :: (lst g k).take i)) ++ twoR ((lst g k).getD i 0) = str (nlk g k ++ (((lst g k).length : Int) :: (lst g k).take (i + 1))) := by
        rw [str_app _ _ hn2, e, List.append_assoc, List.cons_append]
      refine Wp.skip ?_
      refine thenK_at ?_
      refine Wp.seq ?_
      refine Wp.block ?_
      refine Wp.text ?_
      refine WpOps.keep 65 (Value.string (str (nlk g k ++ (↑(List.length (lst g k)) : Int) :: List.take i (lst g k)))) (by kernel_rfl) (by kernel_rfl) (by kernel_rfl) ?_ (fun cf => (by kernel_rfl))
      refine WpOps.keep 66 (Value.iface 3 (Value.iface (List.length (lst g k)) (Value.iface (lx g k) (Value.agg (List.toArray (List.map (fun n => Value.int IntKind.i64 n) (lst g k))))))) (by kernel_rfl) (by kernel_rfl) (by kernel_rfl) ?_ (fun cf => (by kernel_rfl))
      refine WpOps.keep 67 (Value.int IntKind.i64 (↑i : Int)) (by kernel_rfl) (by kernel_rfl) (by kernel_rfl) ?_ (fun cf => (by kernel_rfl))
      refine WpOps.keep 68 (Value.iface 3 (Value.iface (Int.toNat (↑i : Int) * 1) (Value.agg (List.toArray (List.map (fun n => Value.int IntKind.i64 n) (lst g k)))))) (by kernel_rfl) (by kernel_rfl) (by kernel_rfl) ?_ (fun cf => o_indexI (e := 3) (size := 1) (a := (↑i : Int)) h02 (by kernel_rfl) (by kernel_rfl) (by kernel_rfl) (by kernel_rfl))
      refine WpOps.keep 69 (Value.int IntKind.i64 (List.getD (lst g k) i 0)) (by kernel_rfl) (by kernel_rfl) (by kernel_rfl) ?_ (fun cf => o_loadI1 (Int.toNat (↑i : Int) * 1) hv2 (by kernel_rfl) (by kernel_rfl))
      refine WpOps.framed 70 52 [Value.int IntKind.i64 (List.getD (lst g k) i 0)] (by kernel_rfl) (by kernel_rfl) (by kernel_rfl) (by kernel_rfl) (by kernel_rfl) (fun cf => (by kernel_rfl)) ?_
      refine WpFun.of (c1 _) ?_
      refine WpOps.keep 71 (Value.string (str (nlk g k ++ (↑(List.length (lst g k)) : Int) :: List.take i (lst g k)) ++ twoR (List.getD (lst g k) i 0))) (by kernel_rfl) (by kernel_rfl) (by kernel_rfl) ?_ (fun cf => o_add rs2 (by kernel_rfl) (by kernel_rfl))
      refine WpOps.keep 4 (Value.string (str (nlk g k ++ (↑(List.length (lst g k)) : Int) :: List.take i (lst g k)) ++ twoR (List.getD (lst g k) i 0))) (by kernel_rfl) (by kernel_rfl) (by kernel_rfl) ?_ (fun cf => (by kernel_rfl))
      refine WpOps.nil ?_
      refine blockK_norm ?_
      refine thenK_at ?_
      refine Wp.text ?_
      refine WpOps.keep 63 (Value.int IntKind.i64 (↑i : Int)) (by kernel_rfl) (by kernel_rfl) (by kernel_rfl) ?_ (fun cf => (by kernel_rfl))
      refine WpOps.keep 64 (Value.int IntKind.i64 (IntKind.wrap IntKind.i64 ((↑i : Int) + 1))) (by kernel_rfl) (by kernel_rfl) (by kernel_rfl) ?_ (fun cf => (by kernel_rfl))
      refine WpOps.keep 7 (Value.int IntKind.i64 (IntKind.wrap IntKind.i64 ((↑i : Int) + 1))) (by kernel_rfl) (by kernel_rfl) (by kernel_rfl) ?_ (fun cf => (by kernel_rfl))
      refine WpOps.nil ?_
      refine thenK_at ?_
      exact ⟨i + 1, by omega, by omega, View.of [0, 1] [⟨32, true, gc g⟩, ⟨22, true, [sl g.fx g.fr, sl g.tx g.to]⟩] _ (by decide) rfl ⟨⟨gc g, by kernel_rfl, CellsOk.eq rfl (gc_flat g)⟩, ⟨_, by kernel_rfl, CellsOk.eq rfl rfl⟩, trivial⟩
        ⟨⟨by kernel_rfl, rfl⟩, ⟨congrArg Value.string sa2, rfl⟩, ⟨by kernel_rfl, rfl⟩, ⟨congrArg (Value.int .i64) (wr _ (by omega) (by omega)), rfl⟩, ⟨by kernel_rfl, rfl⟩, ⟨by kernel_rfl, rfl⟩, ⟨by kernel_rfl, rfl⟩, trivial⟩⟩
    · have ht : (lst g k).take i = lst g k := List.take_of_length_le (by have := of_decide_eq_false hd; omega)
      refine Wp.exit ?_
      refine thenK_exit ?_
      refine thenK_exit ?_
      refine blockK_hit ?_
      refine blockK_norm ?_
      refine thenK_at ?_
      refine Wp.text ?_
      refine WpOps.keep 72 (Value.int IntKind.i64 (IntKind.wrap IntKind.i64 ((↑k : Int) + 1))) (by kernel_rfl) (by kernel_rfl) (by kernel_rfl) ?_ (fun cf => (by kernel_rfl))
      refine WpOps.keep 50 (Value.int IntKind.i64 (IntKind.wrap IntKind.i64 ((↑k : Int) + 1))) (by kernel_rfl) (by kernel_rfl) (by kernel_rfl) ?_ (fun cf => (by kernel_rfl))
      refine WpOps.nil ?_
      refine thenK_at ?_
      exact ⟨k + 1, by omega, by omega, View.of [0, 1] [⟨32, true, gc g⟩, ⟨22, true, [sl g.fx g.fr, sl g.tx g.to]⟩] _ (by decide) rfl ⟨⟨gc g, by kernel_rfl, CellsOk.eq rfl (gc_flat g)⟩, ⟨_, by kernel_rfl, CellsOk.eq rfl rfl⟩, trivial⟩
        ⟨⟨by kernel_rfl, rfl⟩, ⟨congrArg (fun l => Value.string (str (nlk g k ++ (((lst g k).length : Int) :: l)))) ht, rfl⟩, ⟨by kernel_rfl, rfl⟩, ⟨by kernel_rfl, rfl⟩, ⟨congrArg (Value.int .i64) (wr _ (by omega) (by omega)), rfl⟩, trivial⟩⟩
  · obtain rfl : k = 2 := by have := of_decide_eq_false hc; omega
    have kn := nlk_len g 2 F (by omega)
    have eb : str (nlk g 2) ++ g.data = body g := by
      rw [nlk2]
      exact body_eq g
    have c54 : Fun E 54 [.string (str (nlk g 2) ++ g.data)] (.string (sumS (body g))) := by
      rw [eb]
      exact sum54 _ (by rw [body_size]; omega)
    have q1 : (((str (nlk g 2)).size + g.data.size : Nat) : Int) ≤ 9223372036854775807 := by
      rw [str_size]
      omega
    have q2 : (((str (nlk g 2) ++ g.data : ByteArray).size + (sumS (body g)).size : Nat) : Int) ≤ 9223372036854775807 := by
      rw [eb, body_size]
      show ((_ + 2 : Nat) : Int) ≤ _
      omega
    refine Wp.exit ?_
    refine thenK_exit ?_
    refine thenK_exit ?_
    refine blockK_hit ?_
    refine thenK_at ?_
    refine Wp.seq ?_
    refine Wp.text ?_
    refine WpOps.keep 73 (Value.string (str (nlk g 2))) (by kernel_rfl) (by kernel_rfl) (by kernel_rfl) ?_ (fun cf => (by kernel_rfl))
    refine WpOps.keep 74 (Value.pointer (some (Addr.mk 0 10 none))) (by kernel_rfl) (by kernel_rfl) (by kernel_rfl) ?_ (fun cf => (by kernel_rfl))
    refine WpOps.keep 75 (Value.string (Gr.data g)) (by kernel_rfl) (by kernel_rfl) (by kernel_rfl) ?_ (fun cf => (by kernel_rfl))
    refine WpOps.keep 76 (Value.string (str (nlk g 2) ++ Gr.data g)) (by kernel_rfl) (by kernel_rfl) (by kernel_rfl) ?_ (fun cf => o_add q1 (by kernel_rfl) (by kernel_rfl))
    refine WpOps.keep 4 (Value.string (str (nlk g 2) ++ Gr.data g)) (by kernel_rfl) (by kernel_rfl) (by kernel_rfl) ?_ (fun cf => (by kernel_rfl))
    refine WpOps.nil ?_
    refine thenK_at ?_
    refine Wp.seq ?_
    refine Wp.text ?_
    refine WpOps.keep 77 (Value.string (str (nlk g 2) ++ Gr.data g)) (by kernel_rfl) (by kernel_rfl) (by kernel_rfl) ?_ (fun cf => (by kernel_rfl))
    refine WpOps.keep 78 (Value.string (str (nlk g 2) ++ Gr.data g)) (by kernel_rfl) (by kernel_rfl) (by kernel_rfl) ?_ (fun cf => (by kernel_rfl))
    refine WpOps.framed 79 54 [Value.string (str (nlk g 2) ++ Gr.data g)] (by kernel_rfl) (by kernel_rfl) (by kernel_rfl) (by kernel_rfl) (by kernel_rfl) (fun cf => (by kernel_rfl)) ?_
    refine WpFun.of (c54) ?_
    refine WpOps.keep 80 (Value.string (str (nlk g 2) ++ Gr.data g ++ sumS (body g))) (by kernel_rfl) (by kernel_rfl) (by kernel_rfl) ?_ (fun cf => o_add q2 (by kernel_rfl) (by kernel_rfl))
    refine WpOps.keep 2 (Value.string (str (nlk g 2) ++ Gr.data g ++ sumS (body g))) (by kernel_rfl) (by kernel_rfl) (by kernel_rfl) ?_ (fun cf => (by kernel_rfl))
    refine WpOps.keep 3 (Value.int IntKind.i64 0) (by kernel_rfl) (by kernel_rfl) (by kernel_rfl) ?_ (fun cf => (by kernel_rfl))
    refine WpOps.nil ?_
    refine thenK_at ?_
    refine Wp.ret ?_
    refine endK_retn [Value.string (str (nlk g 2) ++ Gr.data g ++ sumS (body g)), Value.int IntKind.i64 0] (Value.tuple #[Value.string (str (nlk g 2) ++ Gr.data g ++ sumS (body g)), Value.int IntKind.i64 0]) (by kernel_rfl) (by kernel_rfl) ?_
    rw [eb]
    rfl
theorem write22 (g : Gr) : Fun E 22 [gv g] (.tuple #[.string (wStr g), .int .i64 (wErr g)]) := by
  unfold wStr wErr
  cases h : okG g with
  | true => exact write22_ok g h
  | false => exact write22_bad g h
end Go.Proofs.Ytpkkcpglbjbgfaa.D
