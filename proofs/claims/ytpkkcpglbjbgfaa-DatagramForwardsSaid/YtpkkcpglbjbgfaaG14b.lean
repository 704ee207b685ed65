/- Forwarding: slices.Equal, begins; entries of a table. -/
import Derived.Test.YtpkkcpglbjbgfaaFwLem
import Derived.Test.YtpkkcpglbjbgfaaG14a
namespace Go.Proofs.Ytpkkcpglbjbgfaa.D
open Go.Fw Go.RowKit

theorem f80 : E.funcs 80 = some Try.f80 := by kernel_rfl
theorem equal80 (x y : Nat) (p q : List Int) (hp : p.length ≤ 9223372036854775806) : Fun E 80 [sl x p, sl y q] (.bool (decide (p = q))) := by
  refine Fun.of f80 rfl (of_decide_eq_true (by kernel_rfl)) rfl ?_
  refine Wp.seq ?_
  refine Wp.text ?_
  refine WpOps.keep 4 (Value.bool false) (by kernel_rfl) (by kernel_rfl) (by kernel_rfl) ?_ (fun cf => (by kernel_rfl))
  refine WpOps.nil ?_
  refine thenK_at ?_
  refine Wp.seq ?_
  refine Wp.seq ?_
  refine Wp.text ?_
  refine WpOps.keep 6 (Value.iface 3 (Value.iface (List.length p) (Value.iface x (Value.agg (List.toArray (List.map (fun n => Value.int IntKind.i64 n) p)))))) (by kernel_rfl) (by kernel_rfl) (by kernel_rfl) ?_ (fun cf => (by kernel_rfl))
  refine WpOps.keep 7 (Value.int IntKind.i64 (↑(List.length p) : Int)) (by kernel_rfl) (by kernel_rfl) (by kernel_rfl) ?_ (fun cf => (by kernel_rfl))
  refine WpOps.keep 8 (Value.iface 3 (Value.iface (List.length q) (Value.iface y (Value.agg (List.toArray (List.map (fun n => Value.int IntKind.i64 n) q)))))) (by kernel_rfl) (by kernel_rfl) (by kernel_rfl) ?_ (fun cf => (by kernel_rfl))
  refine WpOps.keep 9 (Value.int IntKind.i64 (↑(List.length q) : Int)) (by kernel_rfl) (by kernel_rfl) (by kernel_rfl) ?_ (fun cf => (by kernel_rfl))
  refine WpOps.keep 10 (Value.bool ((↑(List.length p) : Int) != (↑(List.length q) : Int))) (by kernel_rfl) (by kernel_rfl) (by kernel_rfl) ?_ (fun cf => (by kernel_rfl))
  refine WpOps.nil ?_
  refine thenK_at ?_
  refine Wp.split ((↑(List.length p) : Int) != (↑(List.length q) : Int)) (by kernel_rfl) (fun hl => ?_) (fun hl => ?_)
  · refine Wp.seq ?_
    refine Wp.text ?_
    refine WpOps.keep 4 (Value.bool false) (by kernel_rfl) (by kernel_rfl) (by kernel_rfl) ?_ (fun cf => (by kernel_rfl))
    refine WpOps.nil ?_
    refine thenK_at ?_
    refine Wp.ret ?_
    refine thenK_ret ?_
    refine endK_retn [Value.bool false] (Value.bool false) (by kernel_rfl) (by kernel_rfl) ?_
    have : p ≠ q := fun h => by
      rw [h] at hl
      simp at hl
    rw [decide_eq_false this]
    rfl
  · have hlen : p.length = q.length := by
      have : ¬ ((p.length : Int) ≠ (q.length : Int)) := by simpa using hl
      omega
    refine Wp.skip ?_
    refine thenK_at ?_
    refine Wp.seq ?_
    refine Wp.seq ?_
    refine Wp.text ?_
    refine WpOps.keep 11 (Value.iface 3 (Value.iface (List.length p) (Value.iface x (Value.agg (List.toArray (List.map (fun n => Value.int IntKind.i64 n) p)))))) (by kernel_rfl) (by kernel_rfl) (by kernel_rfl) ?_ (fun cf => (by kernel_rfl))
    refine WpOps.keep 12 (Value.int IntKind.i64 (↑(List.length p) : Int)) (by kernel_rfl) (by kernel_rfl) (by kernel_rfl) ?_ (fun cf => (by kernel_rfl))
    refine WpOps.keep 13 (Value.int IntKind.i64 0) (by kernel_rfl) (by kernel_rfl) (by kernel_rfl) ?_ (fun cf => (by kernel_rfl))
    refine WpOps.nil ?_
    refine thenK_at ?_
    refine Wp.block ?_
    refine Wp.loop (G := Nat) (fun i => layj [(0, sl x p), (1, sl y q), (12, .int .i64 p.length), (13, .int .i64 i)]) (fun _ => heapOf []) (fun i => p.length - i) (fun i => i ≤ p.length ∧ ∀ j, j < i → p.getD j 0 = q.getD j 0) 0
      (View.of [] [] _ List.nodup_nil rfl trivial ⟨⟨by kernel_rfl, rfl⟩, ⟨by kernel_rfl, rfl⟩, ⟨by kernel_rfl, rfl⟩, ⟨by kernel_rfl, rfl⟩, trivial⟩) ⟨Nat.zero_le _, fun j hj => absurd hj (Nat.not_lt_zero _)⟩ ?_
    rintro i ⟨hi, he⟩
    refine Wp.seq ?_
    refine Wp.text ?_
    refine WpOps.keep 14 (Value.bool (decide ((↑i : Int) < (↑(List.length p) : Int)))) (by kernel_rfl) (by kernel_rfl) (by kernel_rfl) ?_ (fun cf => (by kernel_rfl))
    refine WpOps.nil ?_
    refine thenK_at ?_
    refine Wp.seq ?_
    refine Wp.split (decide ((↑i : Int) < (↑(List.length p) : Int))) (by kernel_rfl) (fun hc => ?_) (fun hc => ?_)
    · have hlt : (i : Int) < p.length := of_decide_eq_true hc
      have h0 : 0 ≤ (i : Int) ∧ (i : Int) < p.length := ⟨Int.natCast_nonneg _, hlt⟩
      have h1 : 0 ≤ (i : Int) ∧ (i : Int) < q.length := ⟨Int.natCast_nonneg _, by omega⟩
      have hv := sl_at p i (by omega)
      have hw := sl_at q i (by omega)
      refine Wp.skip ?_
      refine thenK_at ?_
      refine Wp.seq ?_
      refine Wp.block ?_
      refine Wp.seq ?_
      refine Wp.text ?_
      refine WpOps.keep 15 (Value.int IntKind.i64 (↑i : Int)) (by kernel_rfl) (by kernel_rfl) (by kernel_rfl) ?_ (fun cf => (by kernel_rfl))
      refine WpOps.keep 5 (Value.int IntKind.i64 (↑i : Int)) (by kernel_rfl) (by kernel_rfl) (by kernel_rfl) ?_ (fun cf => (by kernel_rfl))
      refine WpOps.nil ?_
      refine thenK_at ?_
      refine Wp.seq ?_
      refine Wp.region (by kernel_rfl) ?_
      refine WpOps.keep 16 (Value.iface 3 (Value.iface (List.length p) (Value.iface x (Value.agg (List.toArray (List.map (fun n => Value.int IntKind.i64 n) p)))))) (by kernel_rfl) (by kernel_rfl) (by kernel_rfl) ?_ (fun cf => (by kernel_rfl))
      refine WpOps.keep 17 (Value.int IntKind.i64 (↑i : Int)) (by kernel_rfl) (by kernel_rfl) (by kernel_rfl) ?_ (fun cf => (by kernel_rfl))
      refine WpOps.keep 18 (Value.iface 3 (Value.iface (Int.toNat (↑i : Int) * 1) (Value.agg (List.toArray (List.map (fun n => Value.int IntKind.i64 n) p))))) (by kernel_rfl) (by kernel_rfl) (by kernel_rfl) ?_ (fun cf => o_indexI (e := 3) (size := 1) (a := (↑i : Int)) h0 (by kernel_rfl) (by kernel_rfl) (by kernel_rfl) (by kernel_rfl))
      refine WpOps.keep 19 (Value.int IntKind.i64 (List.getD p i 0)) (by kernel_rfl) (by kernel_rfl) (by kernel_rfl) ?_ (fun cf => o_loadI1 (Int.toNat (↑i : Int) * 1) hv (by kernel_rfl) (by kernel_rfl))
      refine WpOps.keep 20 (Value.iface 3 (Value.iface (List.length q) (Value.iface y (Value.agg (List.toArray (List.map (fun n => Value.int IntKind.i64 n) q)))))) (by kernel_rfl) (by kernel_rfl) (by kernel_rfl) ?_ (fun cf => (by kernel_rfl))
      refine WpOps.keep 21 (Value.int IntKind.i64 (↑i : Int)) (by kernel_rfl) (by kernel_rfl) (by kernel_rfl) ?_ (fun cf => (by kernel_rfl))
      refine WpOps.keep 22 (Value.iface 3 (Value.iface (Int.toNat (↑i : Int) * 1) (Value.agg (List.toArray (List.map (fun n => Value.int IntKind.i64 n) q))))) (by kernel_rfl) (by kernel_rfl) (by kernel_rfl) ?_ (fun cf => o_indexI (e := 3) (size := 1) (a := (↑i : Int)) h1 (by kernel_rfl) (by kernel_rfl) (by kernel_rfl) (by kernel_rfl))
      refine WpOps.keep 23 (Value.int IntKind.i64 (List.getD q i 0)) (by kernel_rfl) (by kernel_rfl) (by kernel_rfl) ?_ (fun cf => o_loadI1 (Int.toNat (↑i : Int) * 1) hw (by kernel_rfl) (by kernel_rfl))
      refine WpOps.keep 24 (Value.bool (List.getD p i 0 != List.getD q i 0)) (by kernel_rfl) (by kernel_rfl) (by kernel_rfl) ?_ (fun cf => (by kernel_rfl))
      refine WpOps.nil ?_
      refine thenK_at ?_
      refine Wp.split (List.getD p i 0 != List.getD q i 0) (by kernel_rfl) (fun hb => ?_) (fun hb => ?_)
      · have hb2 : p.getD i 0 ≠ q.getD i 0 := by simpa using hb
        refine Wp.seq ?_
        refine Wp.text ?_
        refine WpOps.keep 4 (Value.bool false) (by kernel_rfl) (by kernel_rfl) (by kernel_rfl) ?_ (fun cf => (by kernel_rfl))
        refine WpOps.nil ?_
        refine thenK_at ?_
        refine Wp.ret ?_
        refine blockK_ret ?_
        refine thenK_ret ?_
        refine thenK_ret ?_
        refine blockK_ret ?_
        refine thenK_ret ?_
        refine endK_retn [Value.bool false] (Value.bool false) (by kernel_rfl) (by kernel_rfl) ?_
        rw [decide_eq_false (fun h => hb2 (by rw [h]))]
        rfl
      · have hb2 : p.getD i 0 = q.getD i 0 := by simpa using hb
        refine Wp.skip ?_
        refine blockK_norm ?_
        refine thenK_at ?_
        refine Wp.text ?_
        refine WpOps.keep 25 (Value.int IntKind.i64 (IntKind.wrap IntKind.i64 ((↑i : Int) + 1))) (by kernel_rfl) (by kernel_rfl) (by kernel_rfl) ?_ (fun cf => (by kernel_rfl))
        refine WpOps.keep 13 (Value.int IntKind.i64 (IntKind.wrap IntKind.i64 ((↑i : Int) + 1))) (by kernel_rfl) (by kernel_rfl) (by kernel_rfl) ?_ (fun cf => (by kernel_rfl))
        refine WpOps.nil ?_
        refine thenK_at ?_
        refine ⟨i + 1, by omega, ⟨by omega, fun j hj => ?_⟩, View.of [] [] _ List.nodup_nil rfl trivial ⟨⟨by kernel_rfl, rfl⟩, ⟨by kernel_rfl, rfl⟩, ⟨by kernel_rfl, rfl⟩, ⟨congrArg (Value.int .i64) (wrap_i64 ((i : Int) + 1) (by omega) (by omega)), rfl⟩, trivial⟩⟩
        rcases Nat.lt_or_ge j i with h | h
        · exact he j h
        · obtain rfl : j = i := by omega
          exact hb2
    · have hi2 : i = p.length := by have := of_decide_eq_false hc; omega
      have : p = q := by
        refine List.ext_getElem hlen fun j h1 h2 => ?_
        have := he j (by omega)
        rwa [List.getD_eq_getElem?_getD, List.getD_eq_getElem?_getD, List.getElem?_eq_getElem h1, List.getElem?_eq_getElem h2] at this
      refine Wp.exit ?_
      refine thenK_exit ?_
      refine thenK_exit ?_
      refine blockK_hit ?_
      refine thenK_at ?_
      refine Wp.seq ?_
      refine Wp.text ?_
      refine WpOps.keep 4 (Value.bool true) (by kernel_rfl) (by kernel_rfl) (by kernel_rfl) ?_ (fun cf => (by kernel_rfl))
      refine WpOps.nil ?_
      refine thenK_at ?_
      refine Wp.ret ?_
      refine endK_retn [Value.bool true] (Value.bool true) (by kernel_rfl) (by kernel_rfl) ?_
      rw [decide_eq_true this]
      rfl
/-- Does a list begin with a prefix? -/
def beginsB (a p : List Int) : Bool := decide (p.length ≤ a.length ∧ a.take p.length = p)
theorem f95 : E.funcs 95 = some Try.f95 := by kernel_rfl
theorem take_ints (a : List Int) (n : Nat) : List.take (((n : Int).toNat - 0) * 1) (List.drop 0 (List.map (fun n => Value.int .i64 n) a).toArray.toList) = (a.take n).map fun n => Value.int .i64 n := by
  simp
theorem sl_take (a : List Int) (n x : Nat) (hn : n ≤ a.length) : FS 3 ((n : Int).toNat - 0) x (List.take (((n : Int).toNat - 0) * 1) (List.drop 0 (List.map (fun n => Value.int .i64 n) a).toArray.toList)).toArray = sl x (a.take n) := by
  rw [take_ints, sl, List.length_take, Nat.min_eq_left hn, Int.toNat_natCast, Nat.sub_zero]
theorem begins95 (x y : Nat) (a p : List Int) (ha : a.length ≤ 9223372036854775806) : Fun E 95 [sl x a, sl y p] (.bool (beginsB a p)) := by
  refine Fun.of f95 rfl (of_decide_eq_true (by kernel_rfl)) rfl ?_
  by_cases h : p.length ≤ a.length
  · have h1 : decide ((p.length : Int) ≤ a.length) = true := decide_eq_true (by omega)
    have h2 : 0 ≤ (p.length : Int) ∧ (p.length : Int) ≤ (a.length : Int) := by omega
    have e : beginsB a p = decide (a.take p.length = p) := decide_eq_decide.2 ⟨fun h => h.2, fun k => ⟨h, k⟩⟩
    have c : ∀ z, Fun E 80 [FS 3 ((p.length : Int).toNat - 0) z (List.take (((p.length : Int).toNat - 0) * 1) (List.drop 0 (List.map (fun n => Value.int .i64 n) a).toArray.toList)).toArray, sl y p] (.bool (decide (a.take p.length = p))) := fun z => by
      rw [sl_take a p.length z h]
      exact equal80 z y (a.take p.length) p (by rw [List.length_take]; omega)
    refine Wp.seq ?_
    refine Wp.text ?_
    refine WpOps.keep 4 (Value.bool false) (by kernel_rfl) (by kernel_rfl) (by kernel_rfl) ?_ (fun cf => (by kernel_rfl))
    refine WpOps.nil ?_
    refine thenK_at ?_
    refine Wp.seq ?_
    refine Wp.text ?_
    refine WpOps.keep 5 (Value.iface 3 (Value.iface (List.length p) (Value.iface y (Value.agg (List.toArray (List.map (fun n => Value.int IntKind.i64 n) p)))))) (by kernel_rfl) (by kernel_rfl) (by kernel_rfl) ?_ (fun cf => (by kernel_rfl))
    refine WpOps.keep 6 (Value.int IntKind.i64 (↑(List.length p) : Int)) (by kernel_rfl) (by kernel_rfl) (by kernel_rfl) ?_ (fun cf => (by kernel_rfl))
    refine WpOps.keep 7 (Value.iface 3 (Value.iface (List.length a) (Value.iface x (Value.agg (List.toArray (List.map (fun n => Value.int IntKind.i64 n) a)))))) (by kernel_rfl) (by kernel_rfl) (by kernel_rfl) ?_ (fun cf => (by kernel_rfl))
    refine WpOps.keep 8 (Value.int IntKind.i64 (↑(List.length a) : Int)) (by kernel_rfl) (by kernel_rfl) (by kernel_rfl) ?_ (fun cf => (by kernel_rfl))
    refine WpOps.keep 9 (Value.bool true) (by kernel_rfl) (by kernel_rfl) (by kernel_rfl) ?_ (fun cf => by_fact h1 ((by kernel_rfl)))
    refine WpOps.keep 10 (Value.bool true) (by kernel_rfl) (by kernel_rfl) (by kernel_rfl) ?_ (fun cf => (by kernel_rfl))
    refine WpOps.keep 11 (Value.iface 3 (Value.iface (List.length a) (Value.iface x (Value.agg (List.toArray (List.map (fun n => Value.int IntKind.i64 n) a)))))) (by kernel_rfl) (by kernel_rfl) (by kernel_rfl) ?_ (fun cf => (by kernel_rfl))
    refine WpOps.keep 12 (Value.iface 3 (Value.iface (List.length p) (Value.iface y (Value.agg (List.toArray (List.map (fun n => Value.int IntKind.i64 n) p)))))) (by kernel_rfl) (by kernel_rfl) (by kernel_rfl) ?_ (fun cf => (by kernel_rfl))
    refine WpOps.keep 13 (Value.int IntKind.i64 (↑(List.length p) : Int)) (by kernel_rfl) (by kernel_rfl) (by kernel_rfl) ?_ (fun cf => (by kernel_rfl))
    refine WpOps.keep 14 (Value.iface 3 (Value.iface (Int.toNat (↑(List.length p) : Int) - 0) (Value.iface (if x = 2 then 2 else 0) (Value.agg (List.toArray (List.take ((Int.toNat (↑(List.length p) : Int) - 0) * 1) (List.drop 0 (Array.toList (List.toArray (List.map (fun n => Value.int IntKind.i64 n) a)))))))))) (by kernel_rfl) (by kernel_rfl) (by kernel_rfl) ?_ (fun cf => o_cutF_hi (size := 1) h2 (by kernel_rfl) (by kernel_rfl) (by kernel_rfl) (by kernel_rfl))
    refine WpOps.keep 15 (Value.iface 3 (Value.iface (List.length p) (Value.iface y (Value.agg (List.toArray (List.map (fun n => Value.int IntKind.i64 n) p)))))) (by kernel_rfl) (by kernel_rfl) (by kernel_rfl) ?_ (fun cf => (by kernel_rfl))
    refine WpOps.framed 16 80 [Value.iface 3 (Value.iface (Int.toNat (↑(List.length p) : Int) - 0) (Value.iface (if x = 2 then 2 else 0) (Value.agg (List.toArray (List.take ((Int.toNat (↑(List.length p) : Int) - 0) * 1) (List.drop 0 (Array.toList (List.toArray (List.map (fun n => Value.int IntKind.i64 n) a))))))))), Value.iface 3 (Value.iface (List.length p) (Value.iface y (Value.agg (List.toArray (List.map (fun n => Value.int IntKind.i64 n) p)))))] (by kernel_rfl) (by kernel_rfl) (by kernel_rfl) (by kernel_rfl) (by kernel_rfl) (fun cf => (by kernel_rfl)) ?_
    refine WpFun.of (c _) ?_
    refine WpOps.keep 17 (Value.bool (decide (List.take (List.length p) a = p))) (by kernel_rfl) (by kernel_rfl) (by kernel_rfl) ?_ (fun cf => (by kernel_rfl))
    refine WpOps.keep 4 (Value.bool (decide (List.take (List.length p) a = p))) (by kernel_rfl) (by kernel_rfl) (by kernel_rfl) ?_ (fun cf => (by kernel_rfl))
    refine WpOps.nil ?_
    refine thenK_at ?_
    refine Wp.ret ?_
    refine endK_retn [Value.bool (decide (List.take (List.length p) a = p))] (Value.bool (decide (List.take (List.length p) a = p))) (by kernel_rfl) (by kernel_rfl) ?_
    rw [e]
    rfl
  · have h1 : decide ((p.length : Int) ≤ a.length) = false := decide_eq_false (by omega)
    have e : beginsB a p = false := decide_eq_false fun k => h k.1
    refine Wp.seq ?_
    refine Wp.text ?_
    refine WpOps.keep 4 (Value.bool false) (by kernel_rfl) (by kernel_rfl) (by kernel_rfl) ?_ (fun cf => (by kernel_rfl))
    refine WpOps.nil ?_
    refine thenK_at ?_
    refine Wp.seq ?_
    refine Wp.text ?_
    refine WpOps.keep 5 (Value.iface 3 (Value.iface (List.length p) (Value.iface y (Value.agg (List.toArray (List.map (fun n => Value.int IntKind.i64 n) p)))))) (by kernel_rfl) (by kernel_rfl) (by kernel_rfl) ?_ (fun cf => (by kernel_rfl))
    refine WpOps.keep 6 (Value.int IntKind.i64 (↑(List.length p) : Int)) (by kernel_rfl) (by kernel_rfl) (by kernel_rfl) ?_ (fun cf => (by kernel_rfl))
    refine WpOps.keep 7 (Value.iface 3 (Value.iface (List.length a) (Value.iface x (Value.agg (List.toArray (List.map (fun n => Value.int IntKind.i64 n) a)))))) (by kernel_rfl) (by kernel_rfl) (by kernel_rfl) ?_ (fun cf => (by kernel_rfl))
    refine WpOps.keep 8 (Value.int IntKind.i64 (↑(List.length a) : Int)) (by kernel_rfl) (by kernel_rfl) (by kernel_rfl) ?_ (fun cf => (by kernel_rfl))
    refine WpOps.keep 9 (Value.bool false) (by kernel_rfl) (by kernel_rfl) (by kernel_rfl) ?_ (fun cf => by_fact h1 ((by kernel_rfl)))
    refine WpOps.keep 10 (Value.bool false) (by kernel_rfl) (by kernel_rfl) (by kernel_rfl) ?_ (fun cf => (by kernel_rfl))
    refine WpOps.unmet 11 (by kernel_rfl) (by kernel_rfl) (by kernel_rfl) ?_
    refine WpOps.unmet 12 (by kernel_rfl) (by kernel_rfl) (by kernel_rfl) ?_
    refine WpOps.unmet 13 (by kernel_rfl) (by kernel_rfl) (by kernel_rfl) ?_
    refine WpOps.unmet 14 (by kernel_rfl) (by kernel_rfl) (by kernel_rfl) ?_
    refine WpOps.unmet 15 (by kernel_rfl) (by kernel_rfl) (by kernel_rfl) ?_
    refine WpOps.unmet 16 (by kernel_rfl) (by kernel_rfl) (by kernel_rfl) ?_
    refine WpOps.keep 17 (Value.bool false) (by kernel_rfl) (by kernel_rfl) (by kernel_rfl) ?_ (fun cf => (by kernel_rfl))
    refine WpOps.keep 4 (Value.bool false) (by kernel_rfl) (by kernel_rfl) (by kernel_rfl) ?_ (fun cf => (by kernel_rfl))
    refine WpOps.nil ?_
    refine thenK_at ?_
    refine Wp.ret ?_
    refine endK_retn [Value.bool false] (Value.bool false) (by kernel_rfl) (by kernel_rfl) ?_
    rw [e]
    rfl

/-! ## entries -/
structure En where
  x : Nat
  p : List Int
  to : Int
def ec (e : En) : List Value := [sl e.x e.p, .int .i64 e.to]
def evl (e : En) : Value := .agg (ec e).toArray
def ents (t x : Nat) (l : List En) : Value := FS t l.length x (l.flatMap ec).toArray
structure OkEn (e : En) : Prop where
  x : e.x = 2 → e.p = []
  l : e.p.length ≤ 17592186044416
def enOk (e : En) : Bool := isPre e.p && decide (e.to ≥ 0) && decide (e.to ≤ 999)
theorem f93 : E.funcs 93 = some Try.f93 := by kernel_rfl
theorem valid93 (e : En) (ok : OkEn e) : Fun E 93 [evl e] (.bool (enOk e)) := by
  refine Fun.of f93 rfl (of_decide_eq_true (by kernel_rfl)) rfl ?_
  have c := prefix78 e.x e.p (by have := ok.l; omega)
  refine Wp.seq ?_
  refine Wp.text ?_
  refine WpOps.made 1 (Value.pointer (some (Addr.mk 0 0 none))) (Blk.mk 98 true [Value.iface 3 (Value.iface (List.length (En.p e)) (Value.iface (En.x e) (Value.agg (List.toArray (List.map (fun n => Value.int IntKind.i64 n) (En.p e)))))), Value.int IntKind.i64 (En.to e)]) (by kernel_rfl) (by kernel_rfl) (by kernel_rfl) ?_ (fun cf => (by kernel_rfl))
  refine WpOps.keep 2 (Value.bool false) (by kernel_rfl) (by kernel_rfl) (by kernel_rfl) ?_ (fun cf => (by kernel_rfl))
  refine WpOps.nil ?_
  refine thenK_at ?_
  refine Wp.seq ?_
  refine Wp.text ?_
  refine WpOps.keep 3 (Value.pointer (some (Addr.mk 0 0 none))) (by kernel_rfl) (by kernel_rfl) (by kernel_rfl) ?_ (fun cf => (by kernel_rfl))
  refine WpOps.keep 4 (Value.iface 3 (Value.iface (List.length (En.p e)) (Value.iface (En.x e) (Value.agg (List.toArray (List.map (fun n => Value.int IntKind.i64 n) (En.p e))))))) (by kernel_rfl) (by kernel_rfl) (by kernel_rfl) ?_ (fun cf => (by kernel_rfl))
  refine WpOps.framed 5 78 [Value.iface 3 (Value.iface (List.length (En.p e)) (Value.iface (En.x e) (Value.agg (List.toArray (List.map (fun n => Value.int IntKind.i64 n) (En.p e))))))] (by kernel_rfl) (by kernel_rfl) (by kernel_rfl) (by kernel_rfl) (by kernel_rfl) (fun cf => (by kernel_rfl)) ?_
  refine WpFun.of (c) ?_
  refine WpOps.keep 6 (Value.bool (isPre (En.p e))) (by kernel_rfl) (by kernel_rfl) (by kernel_rfl) ?_ (fun cf => (by kernel_rfl))
  refine WpOps.fork 4 (isPre (En.p e)) [7, 8, 9, 10] 10 (decide (En.to e ≥ 0)) (false) (by kernel_rfl) (fun g10 => ?_) (fun g10 => ?_) (fun f_10 b10 hb10 => ?_)
  · refine WpOps.keep 7 (Value.pointer (some (Addr.mk 0 1 none))) (by kernel_rfl) (by kernel_rfl) (wants_tt g10 (by kernel_rfl)) ?_ (fun cf => (by kernel_rfl))
    refine WpOps.keep 8 (Value.int IntKind.i64 (En.to e)) (by kernel_rfl) (by kernel_rfl) (wants_tt g10 (by kernel_rfl)) ?_ (fun cf => (by kernel_rfl))
    refine WpOps.keep 9 (Value.bool (decide (En.to e ≥ 0))) (by kernel_rfl) (by kernel_rfl) (wants_tt g10 (by kernel_rfl)) ?_ (fun cf => (by kernel_rfl))
    refine WpOps.keep 10 (Value.bool (decide (En.to e ≥ 0))) (by kernel_rfl) (by kernel_rfl) (by kernel_rfl) ?_ (fun cf => o_pickT g10 (by kernel_rfl) (by kernel_rfl))
    refine WpOps.nil ?_
    exact ⟨rfl, (.upd rfl (.upd rfl (.upd rfl (.upd rfl .refl)))), (by kernel_rfl)⟩
  · refine WpOps.unmet 7 (by kernel_rfl) (by kernel_rfl) (wants_ft g10 (by kernel_rfl)) ?_
    refine WpOps.unmet 8 (by kernel_rfl) (by kernel_rfl) (wants_ft g10 (by kernel_rfl)) ?_
    refine WpOps.unmet 9 (by kernel_rfl) (by kernel_rfl) (wants_ft g10 (by kernel_rfl)) ?_
    refine WpOps.keep 10 (Value.bool false) (by kernel_rfl) (by kernel_rfl) (by kernel_rfl) ?_ (fun cf => o_pickF g10 (by kernel_rfl) (by kernel_rfl))
    refine WpOps.nil ?_
    exact ⟨rfl, (.upd rfl (.upd rfl (.upd rfl (.upd rfl .refl)))), (by kernel_rfl)⟩
  refine WpOps.keep 11 (Value.bool b10) (by kernel_rfl) (by kernel_rfl) (by kernel_rfl) ?_ (fun cf => (by kernel_rfl))
  refine WpOps.fork 4 (b10) [12, 13, 14, 15] 15 (decide (En.to e ≤ 999)) (false) (by kernel_rfl) (fun g15 => ?_) (fun g15 => ?_) (fun f_15 b15 hb15 => ?_)
  · refine WpOps.keep 12 (Value.pointer (some (Addr.mk 0 1 none))) (by kernel_rfl) (by kernel_rfl) (wants_tt g15 (by kernel_rfl)) ?_ (fun cf => (by kernel_rfl))
    refine WpOps.keep 13 (Value.int IntKind.i64 (En.to e)) (by kernel_rfl) (by kernel_rfl) (wants_tt g15 (by kernel_rfl)) ?_ (fun cf => (by kernel_rfl))
    refine WpOps.keep 14 (Value.bool (decide (En.to e ≤ 999))) (by kernel_rfl) (by kernel_rfl) (wants_tt g15 (by kernel_rfl)) ?_ (fun cf => (by kernel_rfl))
    refine WpOps.keep 15 (Value.bool (decide (En.to e ≤ 999))) (by kernel_rfl) (by kernel_rfl) (by kernel_rfl) ?_ (fun cf => o_pickT g15 (by kernel_rfl) (by kernel_rfl))
    refine WpOps.nil ?_
    exact ⟨rfl, (.upd rfl (.upd rfl (.upd rfl (.upd rfl .refl)))), (by kernel_rfl)⟩
  · refine WpOps.unmet 12 (by kernel_rfl) (by kernel_rfl) (wants_ft g15 (by kernel_rfl)) ?_
    refine WpOps.unmet 13 (by kernel_rfl) (by kernel_rfl) (wants_ft g15 (by kernel_rfl)) ?_
    refine WpOps.unmet 14 (by kernel_rfl) (by kernel_rfl) (wants_ft g15 (by kernel_rfl)) ?_
    refine WpOps.keep 15 (Value.bool false) (by kernel_rfl) (by kernel_rfl) (by kernel_rfl) ?_ (fun cf => o_pickF g15 (by kernel_rfl) (by kernel_rfl))
    refine WpOps.nil ?_
    exact ⟨rfl, (.upd rfl (.upd rfl (.upd rfl (.upd rfl .refl)))), (by kernel_rfl)⟩
  refine WpOps.keep 2 (Value.bool b15) (by kernel_rfl) (by kernel_rfl) (by kernel_rfl) ?_ (fun cf => (by kernel_rfl))
  refine WpOps.nil ?_
  refine thenK_at ?_
  refine Wp.ret ?_
  refine endK_retn [Value.bool b15] (Value.bool b15) (by kernel_rfl) (by kernel_rfl) ?_
  rw [hb15, hb10]
  unfold enOk
  cases isPre e.p <;> cases decide (e.to ≥ 0) <;> rfl
/-- Is the i-th entry right? -/
def zE : En := ⟨0, [], 0⟩
def rowOk (l : List En) (i : Nat) : Bool := enOk (l.getD i zE) && !(decide (0 < i) && decide (cmpL (l.getD (i - 1) zE).p (l.getD i zE).p ≥ 0))
def tblOk (l : List En) : Bool := decide (l.length ≤ 100) && (List.range l.length).all (rowOk l)
theorem tbl_no {l : List En} {i : Nat} (hi : i < l.length) (h : rowOk l i = false) : tblOk l = false := by
  unfold tblOk
  have : (List.range l.length).all (rowOk l) = false := by
    rw [List.all_eq_false]
    exact ⟨i, by simpa using hi, by rw [h]; decide⟩
  rw [this, Bool.and_false]
theorem f84 : E.funcs 84 = some Try.f84 := by kernel_rfl
theorem entries84 (x : Nat) (l : List En) (ok : ∀ e ∈ l, OkEn e) : Fun E 84 [ents 98 x l] (.int .i64 (if tblOk l then 0 else 1)) := by
  refine Fun.of f84 rfl (of_decide_eq_true (by kernel_rfl)) rfl ?_
  refine Wp.seq ?_
  refine Wp.text ?_
  refine WpOps.keep 2 (Value.int IntKind.i64 0) (by kernel_rfl) (by kernel_rfl) (by kernel_rfl) ?_ (fun cf => (by kernel_rfl))
  refine WpOps.nil ?_
  refine thenK_at ?_
  refine Wp.seq ?_
  refine Wp.seq ?_
  refine Wp.text ?_
  refine WpOps.keep 5 (Value.iface 98 (Value.iface (List.length l) (Value.iface x (Value.agg (List.toArray (List.flatMap ec l)))))) (by kernel_rfl) (by kernel_rfl) (by kernel_rfl) ?_ (fun cf => (by kernel_rfl))
  refine WpOps.keep 6 (Value.int IntKind.i64 (↑(List.length l) : Int)) (by kernel_rfl) (by kernel_rfl) (by kernel_rfl) ?_ (fun cf => (by kernel_rfl))
  refine WpOps.keep 7 (Value.bool (decide ((↑(List.length l) : Int) > 100))) (by kernel_rfl) (by kernel_rfl) (by kernel_rfl) ?_ (fun cf => (by kernel_rfl))
  refine WpOps.nil ?_
  refine thenK_at ?_
  refine Wp.split (decide ((↑(List.length l) : Int) > 100)) (by kernel_rfl) (fun hl => ?_) (fun hl => ?_)
  · have : tblOk l = false := by
      unfold tblOk
      rw [decide_eq_false (show ¬ l.length ≤ 100 by have := of_decide_eq_true hl; omega), Bool.false_and]
    refine Wp.seq ?_
    refine Wp.text ?_
    refine WpOps.keep 2 (Value.int IntKind.i64 1) (by kernel_rfl) (by kernel_rfl) (by kernel_rfl) ?_ (fun cf => (by kernel_rfl))
    refine WpOps.nil ?_
    refine thenK_at ?_
    refine Wp.ret ?_
    refine thenK_ret ?_
    refine endK_retn [Value.int IntKind.i64 1] (Value.int IntKind.i64 1) (by kernel_rfl) (by kernel_rfl) ?_
    rw [this]
    rfl
  · have hlen : l.length ≤ 100 := by have := of_decide_eq_false hl; omega
    refine Wp.skip ?_
    refine thenK_at ?_
    refine Wp.seq ?_
    refine Wp.seq ?_
    refine Wp.text ?_
    refine WpOps.keep 8 (Value.iface 98 (Value.iface (List.length l) (Value.iface x (Value.agg (List.toArray (List.flatMap ec l)))))) (by kernel_rfl) (by kernel_rfl) (by kernel_rfl) ?_ (fun cf => (by kernel_rfl))
    refine WpOps.keep 9 (Value.int IntKind.i64 (↑(List.length l) : Int)) (by kernel_rfl) (by kernel_rfl) (by kernel_rfl) ?_ (fun cf => (by kernel_rfl))
    refine WpOps.keep 10 (Value.int IntKind.i64 0) (by kernel_rfl) (by kernel_rfl) (by kernel_rfl) ?_ (fun cf => (by kernel_rfl))
    refine WpOps.nil ?_
    refine thenK_at ?_
    refine Wp.block ?_
    refine Wp.loop (G := Nat) (fun i => layj [(0, ents 98 x l), (8, ents 98 x l), (9, .int .i64 l.length), (10, .int .i64 i)]) (fun _ => heapOf []) (fun i => l.length - i) (fun i => i ≤ l.length ∧ ∀ j, j < i → rowOk l j = true) 0
      (View.of [] [] _ List.nodup_nil rfl trivial ⟨⟨by kernel_rfl, rfl⟩, ⟨by kernel_rfl, rfl⟩, ⟨by kernel_rfl, rfl⟩, ⟨by kernel_rfl, rfl⟩, trivial⟩) ⟨Nat.zero_le _, fun j hj => absurd hj (Nat.not_lt_zero _)⟩ ?_
    rintro i ⟨hi, hp⟩
    refine Wp.seq ?_
    refine Wp.text ?_
    refine WpOps.keep 11 (Value.bool (decide ((↑i : Int) < (↑(List.length l) : Int)))) (by kernel_rfl) (by kernel_rfl) (by kernel_rfl) ?_ (fun cf => (by kernel_rfl))
    refine WpOps.nil ?_
    refine thenK_at ?_
    refine Wp.seq ?_
    refine Wp.split (decide ((↑i : Int) < (↑(List.length l) : Int))) (by kernel_rfl) (fun hc => ?_) (fun hc => ?_)
    · have hlt : (i : Int) < l.length := of_decide_eq_true hc
      have hi2 : i < l.length := by omega
      have h0 : 0 ≤ (i : Int) ∧ (i : Int) < l.length := ⟨Int.natCast_nonneg _, hlt⟩
      have hv := flat_at ec 2 (fun _ => rfl) l i hi2
      have ge : l.getD i zE = l[i] := by rw [List.getD_eq_getElem?_getD, List.getElem?_eq_getElem hi2]; rfl
      have c1 := valid93 l[i] (ok _ (List.getElem_mem hi2))
      by_cases hz : 0 < i
      · have i1 : IntKind.i64.wrap ((i : Int) - 1) = ((i - 1 : Nat) : Int) := by rw [wr _ (by omega) (by omega)]; omega
        have h1 : 0 ≤ IntKind.i64.wrap ((i : Int) - 1) ∧ IntKind.i64.wrap ((i : Int) - 1) < l.length := by rw [i1]; omega
        have z1 : decide ((i : Int) > 0) = true := decide_eq_true (by omega)
        have g2 : l.getD (i - 1) zE = l[i - 1]'(by omega) := by rw [List.getD_eq_getElem?_getD, List.getElem?_eq_getElem (show i - 1 < l.length by omega)]; rfl
        have hw : (List.flatMap ec l)[(IntKind.i64.wrap ((i : Int) - 1)).toNat * 2 + 0]? = some (sl (l[i - 1]'(by omega)).x (l[i - 1]'(by omega)).p) := by
          rw [i1, Int.toNat_natCast, flat_get ec 2 (fun _ => rfl) l (i - 1) 0 (by omega) (by omega)]
          rfl
        have c2 := compare94 (l[i - 1]'(by omega)).x (l[i]).x (l[i - 1]'(by omega)).p (l[i]).p (by have := (ok _ (List.getElem_mem (show i - 1 < l.length by omega))).l; omega)
        refine Wp.skip ?_
        refine thenK_at ?_
        refine Wp.seq ?_
        refine Wp.block ?_
        refine Wp.seq ?_
        refine Wp.text ?_
        refine WpOps.keep 12 (Value.int IntKind.i64 (↑i : Int)) (by kernel_rfl) (by kernel_rfl) (by kernel_rfl) ?_ (fun cf => (by kernel_rfl))
        refine WpOps.keep 13 (Value.iface 98 (Value.iface (Int.toNat (↑i : Int) * 2) (Value.agg (List.toArray (List.flatMap ec l))))) (by kernel_rfl) (by kernel_rfl) (by kernel_rfl) ?_ (fun cf => o_indexI (e := 98) (size := 2) (a := (↑i : Int)) h0 (by kernel_rfl) (by kernel_rfl) (by kernel_rfl) (by kernel_rfl))
        refine WpOps.keep 14 (Value.agg (List.toArray (ec l[i]))) (by kernel_rfl) (by kernel_rfl) (by kernel_rfl) ?_ (fun cf => o_loadIA (Int.toNat (↑i : Int) * 2) hv (by kernel_rfl) (by kernel_rfl))
        refine WpOps.made 4 (Value.pointer (some (Addr.mk 0 0 none))) (Blk.mk 98 true [Value.slice none 0 0, Value.int IntKind.i64 0]) (by kernel_rfl) (by kernel_rfl) (by kernel_rfl) ?_ (fun cf => (by kernel_rfl))
        refine WpOps.keep 3 (Value.int IntKind.i64 (↑i : Int)) (by kernel_rfl) (by kernel_rfl) (by kernel_rfl) ?_ (fun cf => (by kernel_rfl))
        refine WpOps.laid (Value.tuple #[]) (0) (Blk.mk 98 true [Value.iface 3 (Value.iface (List.length (En.p l[i])) (Value.iface (En.x l[i]) (Value.agg (List.toArray (List.map (fun n => Value.int IntKind.i64 n) (En.p l[i])))))), Value.int IntKind.i64 (En.to l[i])]) (by kernel_rfl) (by kernel_rfl) (by kernel_rfl) ?_ (fun cf => (by kernel_rfl))
        refine WpOps.nil ?_
        refine thenK_at ?_
        refine Wp.seq ?_
        refine Wp.region (by kernel_rfl) ?_
        refine WpOps.keep 15 (Value.agg #[Value.iface 3 (Value.iface (List.length (En.p l[i])) (Value.iface (En.x l[i]) (Value.agg (List.toArray (List.map (fun n => Value.int IntKind.i64 n) (En.p l[i])))))), Value.int IntKind.i64 (En.to l[i])]) (by kernel_rfl) (by kernel_rfl) (by kernel_rfl) ?_ (fun cf => (by kernel_rfl))
        refine WpOps.framed 16 93 [Value.agg #[Value.iface 3 (Value.iface (List.length (En.p l[i])) (Value.iface (En.x l[i]) (Value.agg (List.toArray (List.map (fun n => Value.int IntKind.i64 n) (En.p l[i])))))), Value.int IntKind.i64 (En.to l[i])]] (by kernel_rfl) (by kernel_rfl) (by kernel_rfl) (by kernel_rfl) (by kernel_rfl) (fun cf => (by kernel_rfl)) ?_
        refine WpFun.of (c1) ?_
        refine WpOps.keep 17 (Value.bool !enOk l[i]) (by kernel_rfl) (by kernel_rfl) (by kernel_rfl) ?_ (fun cf => (by kernel_rfl))
        refine WpOps.keep 18 (Value.bool !enOk l[i]) (by kernel_rfl) (by kernel_rfl) (by kernel_rfl) ?_ (fun cf => (by kernel_rfl))
        refine WpOps.fork 15 (!enOk l[i]) [19, 20, 21, 22, 23, 24, 25, 26, 27, 28, 29, 30, 31, 32, 33] 33 (true) (decide (cmpL (En.p l[i - 1]) (En.p l[i]) ≥ 0)) (by kernel_rfl) (fun g33 => ?_) (fun g33 => ?_) (fun f_33 b33 hb33 => ?_)
        · refine WpOps.unmet 19 (by kernel_rfl) (by kernel_rfl) (wants_tf g33 (by kernel_rfl)) ?_
          refine WpOps.unmet 20 (by kernel_rfl) (by kernel_rfl) (wants_tf g33 (by kernel_rfl)) ?_
          refine WpOps.unmet 21 (by kernel_rfl) (by kernel_rfl) (wants_tf g33 (by kernel_rfl)) ?_
          refine WpOps.unmet 22 (by kernel_rfl) (by kernel_rfl) (by kernel_rfl) ?_
          refine WpOps.unmet 23 (by kernel_rfl) (by kernel_rfl) (by kernel_rfl) ?_
          refine WpOps.unmet 24 (by kernel_rfl) (by kernel_rfl) (by kernel_rfl) ?_
          refine WpOps.unmet 25 (by kernel_rfl) (by kernel_rfl) (by kernel_rfl) ?_
          refine WpOps.unmet 26 (by kernel_rfl) (by kernel_rfl) (by kernel_rfl) ?_
          refine WpOps.unmet 27 (by kernel_rfl) (by kernel_rfl) (by kernel_rfl) ?_
          refine WpOps.unmet 28 (by kernel_rfl) (by kernel_rfl) (by kernel_rfl) ?_
          refine WpOps.unmet 29 (by kernel_rfl) (by kernel_rfl) (by kernel_rfl) ?_
          refine WpOps.unmet 30 (by kernel_rfl) (by kernel_rfl) (by kernel_rfl) ?_
          refine WpOps.unmet 31 (by kernel_rfl) (by kernel_rfl) (by kernel_rfl) ?_
          refine WpOps.unmet 32 (by kernel_rfl) (by kernel_rfl) (wants_tf g33 (by kernel_rfl)) ?_
          refine WpOps.keep 33 (Value.bool true) (by kernel_rfl) (by kernel_rfl) (by kernel_rfl) ?_ (fun cf => o_pickT g33 (by kernel_rfl) (by kernel_rfl))
          refine WpOps.nil ?_
          exact ⟨rfl, (.upd rfl (.upd rfl (.upd rfl (.upd rfl (.upd rfl (.upd rfl (.upd rfl (.upd rfl (.upd rfl (.upd rfl (.upd rfl (.upd rfl (.upd rfl (.upd rfl (.upd rfl .refl))))))))))))))), (by kernel_rfl)⟩
        · refine WpOps.keep 19 (Value.int IntKind.i64 (↑i : Int)) (by kernel_rfl) (by kernel_rfl) (wants_ff g33 (by kernel_rfl)) ?_ (fun cf => (by kernel_rfl))
          refine WpOps.keep 20 (Value.bool true) (by kernel_rfl) (by kernel_rfl) (wants_ff g33 (by kernel_rfl)) ?_ (fun cf => by_fact z1 ((by kernel_rfl)))
          refine WpOps.keep 21 (Value.bool true) (by kernel_rfl) (by kernel_rfl) (wants_ff g33 (by kernel_rfl)) ?_ (fun cf => (by kernel_rfl))
          refine WpOps.keep 22 (Value.iface 98 (Value.iface (List.length l) (Value.iface x (Value.agg (List.toArray (List.flatMap ec l)))))) (by kernel_rfl) (by kernel_rfl) (by kernel_rfl) ?_ (fun cf => (by kernel_rfl))
          refine WpOps.keep 23 (Value.int IntKind.i64 (↑i : Int)) (by kernel_rfl) (by kernel_rfl) (by kernel_rfl) ?_ (fun cf => (by kernel_rfl))
          refine WpOps.keep 24 (Value.int IntKind.i64 (IntKind.wrap IntKind.i64 ((↑i : Int) - 1))) (by kernel_rfl) (by kernel_rfl) (by kernel_rfl) ?_ (fun cf => (by kernel_rfl))
          refine WpOps.keep 25 (Value.iface 98 (Value.iface (Int.toNat (IntKind.wrap IntKind.i64 ((↑i : Int) - 1)) * 2) (Value.agg (List.toArray (List.flatMap ec l))))) (by kernel_rfl) (by kernel_rfl) (by kernel_rfl) ?_ (fun cf => o_indexI (e := 98) (size := 2) (a := IntKind.wrap IntKind.i64 ((↑i : Int) - 1)) h1 (by kernel_rfl) (by kernel_rfl) (by kernel_rfl) (by kernel_rfl))
          refine WpOps.keep 26 (Value.iface 98 (Value.iface (Int.toNat (IntKind.wrap IntKind.i64 ((↑i : Int) - 1)) * 2 + 0) (Value.agg (List.toArray (List.flatMap ec l))))) (by kernel_rfl) (by kernel_rfl) (by kernel_rfl) ?_ (fun cf => (by kernel_rfl))
          refine WpOps.keep 27 (Value.iface 3 (Value.iface (List.length (En.p l[i - 1])) (Value.iface (En.x l[i - 1]) (Value.agg (List.toArray (List.map (fun n => Value.int IntKind.i64 n) (En.p l[i - 1]))))))) (by kernel_rfl) (by kernel_rfl) (by kernel_rfl) ?_ (fun cf => o_loadI1 (Int.toNat (IntKind.wrap IntKind.i64 ((↑i : Int) - 1)) * 2 + 0) hw (by kernel_rfl) (by kernel_rfl))
          refine WpOps.keep 28 (Value.pointer (some (Addr.mk 0 0 none))) (by kernel_rfl) (by kernel_rfl) (by kernel_rfl) ?_ (fun cf => (by kernel_rfl))
          refine WpOps.keep 29 (Value.iface 3 (Value.iface (List.length (En.p l[i])) (Value.iface (En.x l[i]) (Value.agg (List.toArray (List.map (fun n => Value.int IntKind.i64 n) (En.p l[i]))))))) (by kernel_rfl) (by kernel_rfl) (by kernel_rfl) ?_ (fun cf => (by kernel_rfl))
          refine WpOps.framed 30 94 [Value.iface 3 (Value.iface (List.length (En.p l[i - 1])) (Value.iface (En.x l[i - 1]) (Value.agg (List.toArray (List.map (fun n => Value.int IntKind.i64 n) (En.p l[i - 1])))))), Value.iface 3 (Value.iface (List.length (En.p l[i])) (Value.iface (En.x l[i]) (Value.agg (List.toArray (List.map (fun n => Value.int IntKind.i64 n) (En.p l[i]))))))] (by kernel_rfl) (by kernel_rfl) (by kernel_rfl) (by kernel_rfl) (by kernel_rfl) (fun cf => (by kernel_rfl)) ?_
          refine WpFun.of (c2) ?_
          refine WpOps.keep 31 (Value.bool (decide (cmpL (En.p l[i - 1]) (En.p l[i]) ≥ 0))) (by kernel_rfl) (by kernel_rfl) (by kernel_rfl) ?_ (fun cf => (by kernel_rfl))
          refine WpOps.keep 32 (Value.bool (decide (cmpL (En.p l[i - 1]) (En.p l[i]) ≥ 0))) (by kernel_rfl) (by kernel_rfl) (wants_ff g33 (by kernel_rfl)) ?_ (fun cf => (by kernel_rfl))
          refine WpOps.keep 33 (Value.bool (decide (cmpL (En.p l[i - 1]) (En.p l[i]) ≥ 0))) (by kernel_rfl) (by kernel_rfl) (by kernel_rfl) ?_ (fun cf => o_pickF g33 (by kernel_rfl) (by kernel_rfl))
          refine WpOps.nil ?_
          exact ⟨rfl, (.upd rfl (.upd rfl (.upd rfl (.upd rfl (.upd rfl (.upd rfl (.upd rfl (.upd rfl (.upd rfl (.upd rfl (.upd rfl (.upd rfl (.upd rfl (.upd rfl (.upd rfl .refl))))))))))))))), (by kernel_rfl)⟩
        refine WpOps.nil ?_
        refine thenK_at ?_
        have hr : b33 = !rowOk l i := by
          rw [hb33]
          unfold rowOk
          rw [ge, g2, decide_eq_true hz]
          cases enOk l[i] <;> cases decide (cmpL (l[i - 1]'(by omega)).p l[i].p ≥ 0) <;> rfl
        refine Wp.split (b33) (by kernel_rfl) (fun hb => ?_) (fun hb => ?_)
        · refine Wp.seq ?_
          refine Wp.text ?_
          refine WpOps.keep 2 (Value.int IntKind.i64 1) (by kernel_rfl) (by kernel_rfl) (by kernel_rfl) ?_ (fun cf => (by kernel_rfl))
          refine WpOps.nil ?_
          refine thenK_at ?_
          refine Wp.ret ?_
          refine blockK_ret ?_
          refine thenK_ret ?_
          refine thenK_ret ?_
          refine blockK_ret ?_
          refine thenK_ret ?_
          refine endK_retn [Value.int IntKind.i64 1] (Value.int IntKind.i64 1) (by kernel_rfl) (by kernel_rfl) ?_
          rw [tbl_no hi2 (by rw [hr, Bool.not_eq_true'] at hb; exact hb)]
          rfl
        · refine Wp.skip ?_
          refine blockK_norm ?_
          refine thenK_at ?_
          refine Wp.text ?_
          refine WpOps.keep 34 (Value.int IntKind.i64 (IntKind.wrap IntKind.i64 ((↑i : Int) + 1))) (by kernel_rfl) (by kernel_rfl) (by kernel_rfl) ?_ (fun cf => (by kernel_rfl))
          refine WpOps.keep 10 (Value.int IntKind.i64 (IntKind.wrap IntKind.i64 ((↑i : Int) + 1))) (by kernel_rfl) (by kernel_rfl) (by kernel_rfl) ?_ (fun cf => (by kernel_rfl))
          refine WpOps.nil ?_
          refine thenK_at ?_
          exact ⟨i + 1, by omega, ⟨by omega, fun j hj => by
            rcases Nat.lt_or_ge j i with h | h
            · exact hp j h
            · obtain rfl : j = i := by omega
              rw [hr, Bool.not_eq_false'] at hb
              exact hb⟩, View.of [] [] _ List.nodup_nil rfl trivial ⟨⟨by kernel_rfl, rfl⟩, ⟨by kernel_rfl, rfl⟩, ⟨by kernel_rfl, rfl⟩, ⟨congrArg (Value.int .i64) (wrap_i64 ((i : Int) + 1) (by omega) (by omega)), rfl⟩, trivial⟩⟩
      · have z1 : decide ((i : Int) > 0) = false := decide_eq_false (by omega)
        refine Wp.skip ?_
        refine thenK_at ?_
        refine Wp.seq ?_
        refine Wp.block ?_
        refine Wp.seq ?_
        refine Wp.text ?_
        refine WpOps.keep 12 (Value.int IntKind.i64 (↑i : Int)) (by kernel_rfl) (by kernel_rfl) (by kernel_rfl) ?_ (fun cf => (by kernel_rfl))
        refine WpOps.keep 13 (Value.iface 98 (Value.iface (Int.toNat (↑i : Int) * 2) (Value.agg (List.toArray (List.flatMap ec l))))) (by kernel_rfl) (by kernel_rfl) (by kernel_rfl) ?_ (fun cf => o_indexI (e := 98) (size := 2) (a := (↑i : Int)) h0 (by kernel_rfl) (by kernel_rfl) (by kernel_rfl) (by kernel_rfl))
        refine WpOps.keep 14 (Value.agg (List.toArray (ec l[i]))) (by kernel_rfl) (by kernel_rfl) (by kernel_rfl) ?_ (fun cf => o_loadIA (Int.toNat (↑i : Int) * 2) hv (by kernel_rfl) (by kernel_rfl))
        refine WpOps.made 4 (Value.pointer (some (Addr.mk 0 0 none))) (Blk.mk 98 true [Value.slice none 0 0, Value.int IntKind.i64 0]) (by kernel_rfl) (by kernel_rfl) (by kernel_rfl) ?_ (fun cf => (by kernel_rfl))
        refine WpOps.keep 3 (Value.int IntKind.i64 (↑i : Int)) (by kernel_rfl) (by kernel_rfl) (by kernel_rfl) ?_ (fun cf => (by kernel_rfl))
        refine WpOps.laid (Value.tuple #[]) (0) (Blk.mk 98 true [Value.iface 3 (Value.iface (List.length (En.p l[i])) (Value.iface (En.x l[i]) (Value.agg (List.toArray (List.map (fun n => Value.int IntKind.i64 n) (En.p l[i])))))), Value.int IntKind.i64 (En.to l[i])]) (by kernel_rfl) (by kernel_rfl) (by kernel_rfl) ?_ (fun cf => (by kernel_rfl))
        refine WpOps.nil ?_
        refine thenK_at ?_
        refine Wp.seq ?_
        refine Wp.region (by kernel_rfl) ?_
        refine WpOps.keep 15 (Value.agg #[Value.iface 3 (Value.iface (List.length (En.p l[i])) (Value.iface (En.x l[i]) (Value.agg (List.toArray (List.map (fun n => Value.int IntKind.i64 n) (En.p l[i])))))), Value.int IntKind.i64 (En.to l[i])]) (by kernel_rfl) (by kernel_rfl) (by kernel_rfl) ?_ (fun cf => (by kernel_rfl))
        refine WpOps.framed 16 93 [Value.agg #[Value.iface 3 (Value.iface (List.length (En.p l[i])) (Value.iface (En.x l[i]) (Value.agg (List.toArray (List.map (fun n => Value.int IntKind.i64 n) (En.p l[i])))))), Value.int IntKind.i64 (En.to l[i])]] (by kernel_rfl) (by kernel_rfl) (by kernel_rfl) (by kernel_rfl) (by kernel_rfl) (fun cf => (by kernel_rfl)) ?_
        refine WpFun.of (c1) ?_
        refine WpOps.keep 17 (Value.bool !enOk l[i]) (by kernel_rfl) (by kernel_rfl) (by kernel_rfl) ?_ (fun cf => (by kernel_rfl))
        refine WpOps.keep 18 (Value.bool !enOk l[i]) (by kernel_rfl) (by kernel_rfl) (by kernel_rfl) ?_ (fun cf => (by kernel_rfl))
        refine WpOps.fork 15 (!enOk l[i]) [19, 20, 21, 22, 23, 24, 25, 26, 27, 28, 29, 30, 31, 32, 33] 33 (true) (false) (by kernel_rfl) (fun g33 => ?_) (fun g33 => ?_) (fun f_33 b33 hb33 => ?_)
        · refine WpOps.unmet 19 (by kernel_rfl) (by kernel_rfl) (wants_tf g33 (by kernel_rfl)) ?_
          refine WpOps.unmet 20 (by kernel_rfl) (by kernel_rfl) (wants_tf g33 (by kernel_rfl)) ?_
          refine WpOps.unmet 21 (by kernel_rfl) (by kernel_rfl) (wants_tf g33 (by kernel_rfl)) ?_
          refine WpOps.unmet 22 (by kernel_rfl) (by kernel_rfl) (by kernel_rfl) ?_
          refine WpOps.unmet 23 (by kernel_rfl) (by kernel_rfl) (by kernel_rfl) ?_
          refine WpOps.unmet 24 (by kernel_rfl) (by kernel_rfl) (by kernel_rfl) ?_
          refine WpOps.unmet 25 (by kernel_rfl) (by kernel_rfl) (by kernel_rfl) ?_
          refine WpOps.unmet 26 (by kernel_rfl) (by kernel_rfl) (by kernel_rfl) ?_
          refine WpOps.unmet 27 (by kernel_rfl) (by kernel_rfl) (by kernel_rfl) ?_
          refine WpOps.unmet 28 (by kernel_rfl) (by kernel_rfl) (by kernel_rfl) ?_
          refine WpOps.unmet 29 (by kernel_rfl) (by kernel_rfl) (by kernel_rfl) ?_
          refine WpOps.unmet 30 (by kernel_rfl) (by kernel_rfl) (by kernel_rfl) ?_
          refine WpOps.unmet 31 (by kernel_rfl) (by kernel_rfl) (by kernel_rfl) ?_
          refine WpOps.unmet 32 (by kernel_rfl) (by kernel_rfl) (wants_tf g33 (by kernel_rfl)) ?_
          refine WpOps.keep 33 (Value.bool true) (by kernel_rfl) (by kernel_rfl) (by kernel_rfl) ?_ (fun cf => o_pickT g33 (by kernel_rfl) (by kernel_rfl))
          refine WpOps.nil ?_
          exact ⟨rfl, (.upd rfl (.upd rfl (.upd rfl (.upd rfl (.upd rfl (.upd rfl (.upd rfl (.upd rfl (.upd rfl (.upd rfl (.upd rfl (.upd rfl (.upd rfl (.upd rfl (.upd rfl .refl))))))))))))))), (by kernel_rfl)⟩
        · refine WpOps.keep 19 (Value.int IntKind.i64 (↑i : Int)) (by kernel_rfl) (by kernel_rfl) (wants_ff g33 (by kernel_rfl)) ?_ (fun cf => (by kernel_rfl))
          refine WpOps.keep 20 (Value.bool false) (by kernel_rfl) (by kernel_rfl) (wants_ff g33 (by kernel_rfl)) ?_ (fun cf => by_fact z1 ((by kernel_rfl)))
          refine WpOps.keep 21 (Value.bool false) (by kernel_rfl) (by kernel_rfl) (wants_ff g33 (by kernel_rfl)) ?_ (fun cf => (by kernel_rfl))
          refine WpOps.unmet 22 (by kernel_rfl) (by kernel_rfl) (by kernel_rfl) ?_
          refine WpOps.unmet 23 (by kernel_rfl) (by kernel_rfl) (by kernel_rfl) ?_
          refine WpOps.unmet 24 (by kernel_rfl) (by kernel_rfl) (by kernel_rfl) ?_
          refine WpOps.unmet 25 (by kernel_rfl) (by kernel_rfl) (by kernel_rfl) ?_
          refine WpOps.unmet 26 (by kernel_rfl) (by kernel_rfl) (by kernel_rfl) ?_
          refine WpOps.unmet 27 (by kernel_rfl) (by kernel_rfl) (by kernel_rfl) ?_
          refine WpOps.unmet 28 (by kernel_rfl) (by kernel_rfl) (by kernel_rfl) ?_
          refine WpOps.unmet 29 (by kernel_rfl) (by kernel_rfl) (by kernel_rfl) ?_
          refine WpOps.unmet 30 (by kernel_rfl) (by kernel_rfl) (by kernel_rfl) ?_
          refine WpOps.unmet 31 (by kernel_rfl) (by kernel_rfl) (by kernel_rfl) ?_
          refine WpOps.keep 32 (Value.bool false) (by kernel_rfl) (by kernel_rfl) (wants_ff g33 (by kernel_rfl)) ?_ (fun cf => (by kernel_rfl))
          refine WpOps.keep 33 (Value.bool false) (by kernel_rfl) (by kernel_rfl) (by kernel_rfl) ?_ (fun cf => o_pickF g33 (by kernel_rfl) (by kernel_rfl))
          refine WpOps.nil ?_
          exact ⟨rfl, (.upd rfl (.upd rfl (.upd rfl (.upd rfl (.upd rfl (.upd rfl (.upd rfl (.upd rfl (.upd rfl (.upd rfl (.upd rfl (.upd rfl (.upd rfl (.upd rfl (.upd rfl .refl))))))))))))))), (by kernel_rfl)⟩
        refine WpOps.nil ?_
        refine thenK_at ?_
        have hr : b33 = !rowOk l i := by
          rw [hb33]
          unfold rowOk
          rw [ge, decide_eq_false hz]
          cases enOk l[i] <;> rfl
        refine Wp.split (b33) (by kernel_rfl) (fun hb => ?_) (fun hb => ?_)
        · refine Wp.seq ?_
          refine Wp.text ?_
          refine WpOps.keep 2 (Value.int IntKind.i64 1) (by kernel_rfl) (by kernel_rfl) (by kernel_rfl) ?_ (fun cf => (by kernel_rfl))
          refine WpOps.nil ?_
          refine thenK_at ?_
          refine Wp.ret ?_
          refine blockK_ret ?_
          refine thenK_ret ?_
          refine thenK_ret ?_
          refine blockK_ret ?_
          refine thenK_ret ?_
          refine endK_retn [Value.int IntKind.i64 1] (Value.int IntKind.i64 1) (by kernel_rfl) (by kernel_rfl) ?_
          rw [tbl_no hi2 (by rw [hr, Bool.not_eq_true'] at hb; exact hb)]
          rfl
        · refine Wp.skip ?_
          refine blockK_norm ?_
          refine thenK_at ?_
          refine Wp.text ?_
          refine WpOps.keep 34 (Value.int IntKind.i64 (IntKind.wrap IntKind.i64 ((↑i : Int) + 1))) (by kernel_rfl) (by kernel_rfl) (by kernel_rfl) ?_ (fun cf => (by kernel_rfl))
          refine WpOps.keep 10 (Value.int IntKind.i64 (IntKind.wrap IntKind.i64 ((↑i : Int) + 1))) (by kernel_rfl) (by kernel_rfl) (by kernel_rfl) ?_ (fun cf => (by kernel_rfl))
          refine WpOps.nil ?_
          refine thenK_at ?_
          exact ⟨i + 1, by omega, ⟨by omega, fun j hj => by
            rcases Nat.lt_or_ge j i with h | h
            · exact hp j h
            · obtain rfl : j = i := by omega
              rw [hr, Bool.not_eq_false'] at hb
              exact hb⟩, View.of [] [] _ List.nodup_nil rfl trivial ⟨⟨by kernel_rfl, rfl⟩, ⟨by kernel_rfl, rfl⟩, ⟨by kernel_rfl, rfl⟩, ⟨congrArg (Value.int .i64) (wrap_i64 ((i : Int) + 1) (by omega) (by omega)), rfl⟩, trivial⟩⟩
    · have : tblOk l = true := by
        unfold tblOk
        rw [decide_eq_true hlen, Bool.true_and, List.all_eq_true]
        intro j hj
        exact hp j (by have := of_decide_eq_false hc; have : j < l.length := by simpa using hj
                       omega)
      refine Wp.exit ?_
      refine thenK_exit ?_
      refine thenK_exit ?_
      refine blockK_hit ?_
      refine thenK_at ?_
      refine Wp.seq ?_
      refine Wp.text ?_
      refine WpOps.keep 2 (Value.int IntKind.i64 0) (by kernel_rfl) (by kernel_rfl) (by kernel_rfl) ?_ (fun cf => (by kernel_rfl))
      refine WpOps.nil ?_
      refine thenK_at ?_
      refine Wp.ret ?_
      refine endK_retn [Value.int IntKind.i64 0] (Value.int IntKind.i64 0) (by kernel_rfl) (by kernel_rfl) ?_
      rw [this]
      rfl
end Go.Proofs.Ytpkkcpglbjbgfaa.D
