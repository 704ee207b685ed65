/- Forwarding: finding an entry. -/
import Derived.Test.YtpkkcpglbjbgfaaFwLem
import Derived.Test.YtpkkcpglbjbgfaaG14b
namespace Go.Proofs.Ytpkkcpglbjbgfaa.D
open Go.Fw Go.RowKit

def better (l : List En) (a : List Int) (b : Int) (i : Nat) : Bool := decide ((l.getD i zE).p.length ≤ 10) && beginsB a (l.getD i zE).p && (decide (b < 0) || decide ((l.getD i zE).p.length > (l.getD b.toNat zE).p.length))
def bestAt (l : List En) (a : List Int) : Nat → Int
  | 0 => -1
  | i + 1 => if better l a (bestAt l a i) i = true then (i : Int) else bestAt l a i
theorem best_in (l : List En) (a : List Int) : ∀ i, -1 ≤ bestAt l a i ∧ bestAt l a i < i ∨ bestAt l a i = -1
  | 0 => .inr rfl
  | i + 1 => by
    have := best_in l a i
    unfold bestAt
    split <;> omega
theorem f85 : E.funcs 85 = some Try.f85 := by kernel_rfl
theorem find85 (x y : Nat) (l : List En) (a : List Int) (hl : l.length ≤ 100) (ha : a.length ≤ 9223372036854775806) : Fun E 85 [ents 98 x l, sl y a, .int .i64 10] (.int .i64 (bestAt l a l.length)) := by
  refine Fun.of f85 rfl (of_decide_eq_true (by kernel_rfl)) rfl ?_
  refine Wp.seq ?_
  refine Wp.text ?_
  refine WpOps.keep 6 (Value.int IntKind.i64 0) (by kernel_rfl) (by kernel_rfl) (by kernel_rfl) ?_ (fun cf => (by kernel_rfl))
  refine WpOps.nil ?_
  refine thenK_at ?_
  refine Wp.seq ?_
  refine Wp.text ?_
  refine WpOps.keep 7 (Value.int IntKind.i64 (-1)) (by kernel_rfl) (by kernel_rfl) (by kernel_rfl) ?_ (fun cf => (by kernel_rfl))
  refine WpOps.nil ?_
  refine thenK_at ?_
  refine Wp.seq ?_
  refine Wp.seq ?_
  refine Wp.text ?_
  refine WpOps.keep 10 (Value.iface 98 (Value.iface (List.length l) (Value.iface x (Value.agg (List.toArray (List.flatMap ec l)))))) (by kernel_rfl) (by kernel_rfl) (by kernel_rfl) ?_ (fun cf => (by kernel_rfl))
  refine WpOps.keep 11 (Value.int IntKind.i64 (↑(List.length l) : Int)) (by kernel_rfl) (by kernel_rfl) (by kernel_rfl) ?_ (fun cf => (by kernel_rfl))
  refine WpOps.keep 12 (Value.int IntKind.i64 0) (by kernel_rfl) (by kernel_rfl) (by kernel_rfl) ?_ (fun cf => (by kernel_rfl))
  refine WpOps.nil ?_
  refine thenK_at ?_
  refine Wp.block ?_
  refine Wp.loop (G := Nat) (fun i => layj [(0, ents 98 x l), (1, sl y a), (2, .int .i64 10), (7, .int .i64 (bestAt l a i)), (10, ents 98 x l), (11, .int .i64 l.length), (12, .int .i64 i)]) (fun _ => heapOf []) (fun i => l.length - i) (fun i => i ≤ l.length) 0
    (View.of [] [] _ List.nodup_nil rfl trivial ⟨⟨by kernel_rfl, rfl⟩, ⟨by kernel_rfl, rfl⟩, ⟨by kernel_rfl, rfl⟩, ⟨by kernel_rfl, rfl⟩, ⟨by kernel_rfl, rfl⟩, ⟨by kernel_rfl, rfl⟩, ⟨by kernel_rfl, rfl⟩, trivial⟩) (Nat.zero_le _) ?_
  intro i hi
  refine Wp.seq ?_
  refine Wp.text ?_
  refine WpOps.keep 13 (Value.bool (decide ((↑i : Int) < (↑(List.length l) : Int)))) (by kernel_rfl) (by kernel_rfl) (by kernel_rfl) ?_ (fun cf => (by kernel_rfl))
  refine WpOps.nil ?_
  refine thenK_at ?_
  refine Wp.seq ?_
  refine Wp.split (decide ((↑i : Int) < (↑(List.length l) : Int))) (by kernel_rfl) (fun hc => ?_) (fun hc => ?_)
  · have hlt : (i : Int) < l.length := of_decide_eq_true hc
    have hi2 : i < l.length := by omega
    have h0 : 0 ≤ (i : Int) ∧ (i : Int) < l.length := ⟨Int.natCast_nonneg _, hlt⟩
    have hv := flat_at ec 2 (fun _ => rfl) l i hi2
    have ge : l.getD i zE = l[i] := by rw [List.getD_eq_getElem?_getD, List.getElem?_eq_getElem hi2]; rfl
    have c1 := begins95 y (l[i]).x a (l[i]).p ha
    have hbi := best_in l a i
    by_cases hz : bestAt l a i < 0
    · have z1 : decide (bestAt l a i < 0) = true := decide_eq_true hz
      refine Wp.skip ?_
      refine thenK_at ?_
      refine Wp.seq ?_
      refine Wp.block ?_
      refine Wp.seq ?_
      refine Wp.text ?_
      refine WpOps.keep 14 (Value.int IntKind.i64 (↑i : Int)) (by kernel_rfl) (by kernel_rfl) (by kernel_rfl) ?_ (fun cf => (by kernel_rfl))
      refine WpOps.keep 15 (Value.iface 98 (Value.iface (Int.toNat (↑i : Int) * 2) (Value.agg (List.toArray (List.flatMap ec l))))) (by kernel_rfl) (by kernel_rfl) (by kernel_rfl) ?_ (fun cf => o_indexI (e := 98) (size := 2) (a := (↑i : Int)) h0 (by kernel_rfl) (by kernel_rfl) (by kernel_rfl) (by kernel_rfl))
      refine WpOps.keep 16 (Value.agg (List.toArray (ec l[i]))) (by kernel_rfl) (by kernel_rfl) (by kernel_rfl) ?_ (fun cf => o_loadIA (Int.toNat (↑i : Int) * 2) hv (by kernel_rfl) (by kernel_rfl))
      refine WpOps.made 9 (Value.pointer (some (Addr.mk 0 0 none))) (Blk.mk 98 true [Value.slice none 0 0, Value.int IntKind.i64 0]) (by kernel_rfl) (by kernel_rfl) (by kernel_rfl) ?_ (fun cf => (by kernel_rfl))
      refine WpOps.keep 8 (Value.int IntKind.i64 (↑i : Int)) (by kernel_rfl) (by kernel_rfl) (by kernel_rfl) ?_ (fun cf => (by kernel_rfl))
      refine WpOps.laid (Value.tuple #[]) (0) (Blk.mk 98 true [Value.iface 3 (Value.iface (List.length (En.p l[i])) (Value.iface (En.x l[i]) (Value.agg (List.toArray (List.map (fun n => Value.int IntKind.i64 n) (En.p l[i])))))), Value.int IntKind.i64 (En.to l[i])]) (by kernel_rfl) (by kernel_rfl) (by kernel_rfl) ?_ (fun cf => (by kernel_rfl))
      refine WpOps.nil ?_
      refine thenK_at ?_
      refine Wp.seq ?_
      refine Wp.region (by kernel_rfl) ?_
      refine WpOps.keep 17 (Value.pointer (some (Addr.mk 0 0 none))) (by kernel_rfl) (by kernel_rfl) (by kernel_rfl) ?_ (fun cf => (by kernel_rfl))
      refine WpOps.keep 18 (Value.iface 3 (Value.iface (List.length (En.p l[i])) (Value.iface (En.x l[i]) (Value.agg (List.toArray (List.map (fun n => Value.int IntKind.i64 n) (En.p l[i]))))))) (by kernel_rfl) (by kernel_rfl) (by kernel_rfl) ?_ (fun cf => (by kernel_rfl))
      refine WpOps.keep 19 (Value.int IntKind.i64 (↑(List.length (En.p l[i])) : Int)) (by kernel_rfl) (by kernel_rfl) (by kernel_rfl) ?_ (fun cf => (by kernel_rfl))
      refine WpOps.keep 20 (Value.int IntKind.i64 10) (by kernel_rfl) (by kernel_rfl) (by kernel_rfl) ?_ (fun cf => (by kernel_rfl))
      refine WpOps.keep 21 (Value.bool (decide ((↑(List.length (En.p l[i])) : Int) ≤ 10))) (by kernel_rfl) (by kernel_rfl) (by kernel_rfl) ?_ (fun cf => (by kernel_rfl))
      refine WpOps.keep 22 (Value.bool (decide ((↑(List.length (En.p l[i])) : Int) ≤ 10))) (by kernel_rfl) (by kernel_rfl) (by kernel_rfl) ?_ (fun cf => (by kernel_rfl))
      refine WpOps.fork 5 (decide ((↑(List.length (En.p l[i])) : Int) ≤ 10)) [23, 24, 25, 26, 27] 27 (beginsB a (En.p l[i])) (false) (by kernel_rfl) (fun g27 => ?_) (fun g27 => ?_) (fun f_27 b27 hb27 => ?_)
      · refine WpOps.keep 23 (Value.iface 3 (Value.iface (List.length a) (Value.iface y (Value.agg (List.toArray (List.map (fun n => Value.int IntKind.i64 n) a)))))) (by kernel_rfl) (by kernel_rfl) (wants_tt g27 (by kernel_rfl)) ?_ (fun cf => (by kernel_rfl))
        refine WpOps.keep 24 (Value.pointer (some (Addr.mk 0 0 none))) (by kernel_rfl) (by kernel_rfl) (wants_tt g27 (by kernel_rfl)) ?_ (fun cf => (by kernel_rfl))
        refine WpOps.keep 25 (Value.iface 3 (Value.iface (List.length (En.p l[i])) (Value.iface (En.x l[i]) (Value.agg (List.toArray (List.map (fun n => Value.int IntKind.i64 n) (En.p l[i]))))))) (by kernel_rfl) (by kernel_rfl) (wants_tt g27 (by kernel_rfl)) ?_ (fun cf => (by kernel_rfl))
        refine WpOps.framed 26 95 [Value.iface 3 (Value.iface (List.length a) (Value.iface y (Value.agg (List.toArray (List.map (fun n => Value.int IntKind.i64 n) a))))), Value.iface 3 (Value.iface (List.length (En.p l[i])) (Value.iface (En.x l[i]) (Value.agg (List.toArray (List.map (fun n => Value.int IntKind.i64 n) (En.p l[i]))))))] (by kernel_rfl) (by kernel_rfl) (wants_tt g27 (by kernel_rfl)) (by kernel_rfl) (by kernel_rfl) (fun cf => (by kernel_rfl)) ?_
        refine WpFun.of (c1) ?_
        refine WpOps.keep 27 (Value.bool (beginsB a (En.p l[i]))) (by kernel_rfl) (by kernel_rfl) (by kernel_rfl) ?_ (fun cf => o_pickT g27 (by kernel_rfl) (by kernel_rfl))
        refine WpOps.nil ?_
        exact ⟨rfl, (.upd rfl (.upd rfl (.upd rfl (.upd rfl (.upd rfl .refl))))), (by kernel_rfl)⟩
      · refine WpOps.unmet 23 (by kernel_rfl) (by kernel_rfl) (wants_ft g27 (by kernel_rfl)) ?_
        refine WpOps.unmet 24 (by kernel_rfl) (by kernel_rfl) (wants_ft g27 (by kernel_rfl)) ?_
        refine WpOps.unmet 25 (by kernel_rfl) (by kernel_rfl) (wants_ft g27 (by kernel_rfl)) ?_
        refine WpOps.unmet 26 (by kernel_rfl) (by kernel_rfl) (wants_ft g27 (by kernel_rfl)) ?_
        refine WpOps.keep 27 (Value.bool false) (by kernel_rfl) (by kernel_rfl) (by kernel_rfl) ?_ (fun cf => o_pickF g27 (by kernel_rfl) (by kernel_rfl))
        refine WpOps.nil ?_
        exact ⟨rfl, (.upd rfl (.upd rfl (.upd rfl (.upd rfl (.upd rfl .refl))))), (by kernel_rfl)⟩
      refine WpOps.keep 28 (Value.bool b27) (by kernel_rfl) (by kernel_rfl) (by kernel_rfl) ?_ (fun cf => (by kernel_rfl))
      refine WpOps.fork 15 (b27) [29, 30, 31, 32, 33, 34, 35, 36, 37, 38, 39, 40, 41, 42, 43] 43 (true) (false) (by kernel_rfl) (fun g43 => ?_) (fun g43 => ?_) (fun f_43 b43 hb43 => ?_)
      · refine WpOps.keep 29 (Value.int IntKind.i64 (bestAt l a i)) (by kernel_rfl) (by kernel_rfl) (wants_tt g43 (by kernel_rfl)) ?_ (fun cf => (by kernel_rfl))
        refine WpOps.keep 30 (Value.bool true) (by kernel_rfl) (by kernel_rfl) (wants_tt g43 (by kernel_rfl)) ?_ (fun cf => by_fact z1 ((by kernel_rfl)))
        refine WpOps.keep 31 (Value.bool true) (by kernel_rfl) (by kernel_rfl) (wants_tt g43 (by kernel_rfl)) ?_ (fun cf => (by kernel_rfl))
        refine WpOps.unmet 32 (by kernel_rfl) (by kernel_rfl) (by kernel_rfl) ?_
        refine WpOps.unmet 33 (by kernel_rfl) (by kernel_rfl) (by kernel_rfl) ?_
        refine WpOps.unmet 34 (by kernel_rfl) (by kernel_rfl) (by kernel_rfl) ?_
        refine WpOps.unmet 35 (by kernel_rfl) (by kernel_rfl) (by kernel_rfl) ?_
        refine WpOps.unmet 36 (by kernel_rfl) (by kernel_rfl) (by kernel_rfl) ?_
        refine WpOps.unmet 37 (by kernel_rfl) (by kernel_rfl) (by kernel_rfl) ?_
        refine WpOps.unmet 38 (by kernel_rfl) (by kernel_rfl) (by kernel_rfl) ?_
        refine WpOps.unmet 39 (by kernel_rfl) (by kernel_rfl) (by kernel_rfl) ?_
        refine WpOps.unmet 40 (by kernel_rfl) (by kernel_rfl) (by kernel_rfl) ?_
        refine WpOps.unmet 41 (by kernel_rfl) (by kernel_rfl) (by kernel_rfl) ?_
        refine WpOps.keep 42 (Value.bool true) (by kernel_rfl) (by kernel_rfl) (wants_tt g43 (by kernel_rfl)) ?_ (fun cf => (by kernel_rfl))
        refine WpOps.keep 43 (Value.bool true) (by kernel_rfl) (by kernel_rfl) (by kernel_rfl) ?_ (fun cf => o_pickT g43 (by kernel_rfl) (by kernel_rfl))
        refine WpOps.nil ?_
        exact ⟨rfl, (.upd rfl (.upd rfl (.upd rfl (.upd rfl (.upd rfl (.upd rfl (.upd rfl (.upd rfl (.upd rfl (.upd rfl (.upd rfl (.upd rfl (.upd rfl (.upd rfl (.upd rfl .refl))))))))))))))), (by kernel_rfl)⟩
      · refine WpOps.unmet 29 (by kernel_rfl) (by kernel_rfl) (wants_ft g43 (by kernel_rfl)) ?_
        refine WpOps.unmet 30 (by kernel_rfl) (by kernel_rfl) (wants_ft g43 (by kernel_rfl)) ?_
        refine WpOps.unmet 31 (by kernel_rfl) (by kernel_rfl) (wants_ft g43 (by kernel_rfl)) ?_
        refine WpOps.unmet 32 (by kernel_rfl) (by kernel_rfl) (by kernel_rfl) ?_
        refine WpOps.unmet 33 (by kernel_rfl) (by kernel_rfl) (by kernel_rfl) ?_
        refine WpOps.unmet 34 (by kernel_rfl) (by kernel_rfl) (by kernel_rfl) ?_
        refine WpOps.unmet 35 (by kernel_rfl) (by kernel_rfl) (by kernel_rfl) ?_
        refine WpOps.unmet 36 (by kernel_rfl) (by kernel_rfl) (by kernel_rfl) ?_
        refine WpOps.unmet 37 (by kernel_rfl) (by kernel_rfl) (by kernel_rfl) ?_
        refine WpOps.unmet 38 (by kernel_rfl) (by kernel_rfl) (by kernel_rfl) ?_
        refine WpOps.unmet 39 (by kernel_rfl) (by kernel_rfl) (by kernel_rfl) ?_
        refine WpOps.unmet 40 (by kernel_rfl) (by kernel_rfl) (by kernel_rfl) ?_
        refine WpOps.unmet 41 (by kernel_rfl) (by kernel_rfl) (by kernel_rfl) ?_
        refine WpOps.unmet 42 (by kernel_rfl) (by kernel_rfl) (wants_ft g43 (by kernel_rfl)) ?_
        refine WpOps.keep 43 (Value.bool false) (by kernel_rfl) (by kernel_rfl) (by kernel_rfl) ?_ (fun cf => o_pickF g43 (by kernel_rfl) (by kernel_rfl))
        refine WpOps.nil ?_
        exact ⟨rfl, (.upd rfl (.upd rfl (.upd rfl (.upd rfl (.upd rfl (.upd rfl (.upd rfl (.upd rfl (.upd rfl (.upd rfl (.upd rfl (.upd rfl (.upd rfl (.upd rfl (.upd rfl .refl))))))))))))))), (by kernel_rfl)⟩
      refine WpOps.nil ?_
      refine thenK_at ?_
      have hr : b43 = better l a (bestAt l a i) i := by
        have d1 : decide (((l[i]).p.length : Int) ≤ 10) = decide ((l[i]).p.length ≤ 10) := decide_eq_decide.2 (by omega)
        rw [hb43, hb27, d1]
        unfold better
        rw [ge, z1]
        cases decide ((l[i]).p.length ≤ 10) <;> cases beginsB a (l[i]).p <;> rfl
      refine Wp.split (b43) (by kernel_rfl) (fun hb => ?_) (fun hb => ?_)
      · have e1 : bestAt l a (i + 1) = i := if_pos (by rw [← hr]; exact hb)
        refine Wp.text ?_
        refine WpOps.keep 44 (Value.int IntKind.i64 (↑i : Int)) (by kernel_rfl) (by kernel_rfl) (by kernel_rfl) ?_ (fun cf => (by kernel_rfl))
        refine WpOps.keep 7 (Value.int IntKind.i64 (↑i : Int)) (by kernel_rfl) (by kernel_rfl) (by kernel_rfl) ?_ (fun cf => (by kernel_rfl))
        refine WpOps.nil ?_
        refine blockK_norm ?_
        refine thenK_at ?_
        refine Wp.text ?_
        refine WpOps.keep 45 (Value.int IntKind.i64 (IntKind.wrap IntKind.i64 ((↑i : Int) + 1))) (by kernel_rfl) (by kernel_rfl) (by kernel_rfl) ?_ (fun cf => (by kernel_rfl))
        refine WpOps.keep 12 (Value.int IntKind.i64 (IntKind.wrap IntKind.i64 ((↑i : Int) + 1))) (by kernel_rfl) (by kernel_rfl) (by kernel_rfl) ?_ (fun cf => (by kernel_rfl))
        refine WpOps.nil ?_
        refine thenK_at ?_
        exact ⟨i + 1, by omega, by omega, View.of [] [] _ List.nodup_nil rfl trivial ⟨⟨by kernel_rfl, rfl⟩, ⟨by kernel_rfl, rfl⟩, ⟨by kernel_rfl, rfl⟩, ⟨congrArg (Value.int .i64) e1.symm, rfl⟩, ⟨by kernel_rfl, rfl⟩, ⟨by kernel_rfl, rfl⟩, ⟨congrArg (Value.int .i64) (wrap_i64 ((i : Int) + 1) (by omega) (by omega)), rfl⟩, trivial⟩⟩
      · have e1 : bestAt l a (i + 1) = bestAt l a i := if_neg (by rw [← hr, hb]; decide)
        refine Wp.skip ?_
        refine blockK_norm ?_
        refine thenK_at ?_
        refine Wp.text ?_
        refine WpOps.keep 45 (Value.int IntKind.i64 (IntKind.wrap IntKind.i64 ((↑i : Int) + 1))) (by kernel_rfl) (by kernel_rfl) (by kernel_rfl) ?_ (fun cf => (by kernel_rfl))
        refine WpOps.keep 12 (Value.int IntKind.i64 (IntKind.wrap IntKind.i64 ((↑i : Int) + 1))) (by kernel_rfl) (by kernel_rfl) (by kernel_rfl) ?_ (fun cf => (by kernel_rfl))
        refine WpOps.nil ?_
        refine thenK_at ?_
        exact ⟨i + 1, by omega, by omega, View.of [] [] _ List.nodup_nil rfl trivial ⟨⟨by kernel_rfl, rfl⟩, ⟨by kernel_rfl, rfl⟩, ⟨by kernel_rfl, rfl⟩, ⟨congrArg (Value.int .i64) e1.symm, rfl⟩, ⟨by kernel_rfl, rfl⟩, ⟨by kernel_rfl, rfl⟩, ⟨congrArg (Value.int .i64) (wrap_i64 ((i : Int) + 1) (by omega) (by omega)), rfl⟩, trivial⟩⟩
    · have z1 : decide (bestAt l a i < 0) = false := decide_eq_false hz
      have h1 : 0 ≤ bestAt l a i ∧ bestAt l a i < l.length := by omega
      have gb : l.getD (bestAt l a i).toNat zE = l[(bestAt l a i).toNat]'(by omega) := by rw [List.getD_eq_getElem?_getD, List.getElem?_eq_getElem (show (bestAt l a i).toNat < l.length by omega)]; rfl
      have hw : (List.flatMap ec l)[(bestAt l a i).toNat * 2 + 0]? = some (sl (l[(bestAt l a i).toNat]'(by omega)).x (l[(bestAt l a i).toNat]'(by omega)).p) := by
        rw [flat_get ec 2 (fun _ => rfl) l (bestAt l a i).toNat 0 (by omega) (by omega)]
        rfl
      refine Wp.skip ?_
      refine thenK_at ?_
      refine Wp.seq ?_
      refine Wp.block ?_
      refine Wp.seq ?_
      refine Wp.text ?_
      refine WpOps.keep 14 (Value.int IntKind.i64 (↑i : Int)) (by kernel_rfl) (by kernel_rfl) (by kernel_rfl) ?_ (fun cf => (by kernel_rfl))
      refine WpOps.keep 15 (Value.iface 98 (Value.iface (Int.toNat (↑i : Int) * 2) (Value.agg (List.toArray (List.flatMap ec l))))) (by kernel_rfl) (by kernel_rfl) (by kernel_rfl) ?_ (fun cf => o_indexI (e := 98) (size := 2) (a := (↑i : Int)) h0 (by kernel_rfl) (by kernel_rfl) (by kernel_rfl) (by kernel_rfl))
      refine WpOps.keep 16 (Value.agg (List.toArray (ec l[i]))) (by kernel_rfl) (by kernel_rfl) (by kernel_rfl) ?_ (fun cf => o_loadIA (Int.toNat (↑i : Int) * 2) hv (by kernel_rfl) (by kernel_rfl))
      refine WpOps.made 9 (Value.pointer (some (Addr.mk 0 0 none))) (Blk.mk 98 true [Value.slice none 0 0, Value.int IntKind.i64 0]) (by kernel_rfl) (by kernel_rfl) (by kernel_rfl) ?_ (fun cf => (by kernel_rfl))
      refine WpOps.keep 8 (Value.int IntKind.i64 (↑i : Int)) (by kernel_rfl) (by kernel_rfl) (by kernel_rfl) ?_ (fun cf => (by kernel_rfl))
      refine WpOps.laid (Value.tuple #[]) (0) (Blk.mk 98 true [Value.iface 3 (Value.iface (List.length (En.p l[i])) (Value.iface (En.x l[i]) (Value.agg (List.toArray (List.map (fun n => Value.int IntKind.i64 n) (En.p l[i])))))), Value.int IntKind.i64 (En.to l[i])]) (by kernel_rfl) (by kernel_rfl) (by kernel_rfl) ?_ (fun cf => (by kernel_rfl))
      refine WpOps.nil ?_
      refine thenK_at ?_
      refine Wp.seq ?_
      refine Wp.region (by kernel_rfl) ?_
      refine WpOps.keep 17 (Value.pointer (some (Addr.mk 0 0 none))) (by kernel_rfl) (by kernel_rfl) (by kernel_rfl) ?_ (fun cf => (by kernel_rfl))
      refine WpOps.keep 18 (Value.iface 3 (Value.iface (List.length (En.p l[i])) (Value.iface (En.x l[i]) (Value.agg (List.toArray (List.map (fun n => Value.int IntKind.i64 n) (En.p l[i]))))))) (by kernel_rfl) (by kernel_rfl) (by kernel_rfl) ?_ (fun cf => (by kernel_rfl))
      refine WpOps.keep 19 (Value.int IntKind.i64 (↑(List.length (En.p l[i])) : Int)) (by kernel_rfl) (by kernel_rfl) (by kernel_rfl) ?_ (fun cf => (by kernel_rfl))
      refine WpOps.keep 20 (Value.int IntKind.i64 10) (by kernel_rfl) (by kernel_rfl) (by kernel_rfl) ?_ (fun cf => (by kernel_rfl))
      refine WpOps.keep 21 (Value.bool (decide ((↑(List.length (En.p l[i])) : Int) ≤ 10))) (by kernel_rfl) (by kernel_rfl) (by kernel_rfl) ?_ (fun cf => (by kernel_rfl))
      refine WpOps.keep 22 (Value.bool (decide ((↑(List.length (En.p l[i])) : Int) ≤ 10))) (by kernel_rfl) (by kernel_rfl) (by kernel_rfl) ?_ (fun cf => (by kernel_rfl))
      refine WpOps.fork 5 (decide ((↑(List.length (En.p l[i])) : Int) ≤ 10)) [23, 24, 25, 26, 27] 27 (beginsB a (En.p l[i])) (false) (by kernel_rfl) (fun g27 => ?_) (fun g27 => ?_) (fun f_27 b27 hb27 => ?_)
      · refine WpOps.keep 23 (Value.iface 3 (Value.iface (List.length a) (Value.iface y (Value.agg (List.toArray (List.map (fun n => Value.int IntKind.i64 n) a)))))) (by kernel_rfl) (by kernel_rfl) (wants_tt g27 (by kernel_rfl)) ?_ (fun cf => (by kernel_rfl))
        refine WpOps.keep 24 (Value.pointer (some (Addr.mk 0 0 none))) (by kernel_rfl) (by kernel_rfl) (wants_tt g27 (by kernel_rfl)) ?_ (fun cf => (by kernel_rfl))
        refine WpOps.keep 25 (Value.iface 3 (Value.iface (List.length (En.p l[i])) (Value.iface (En.x l[i]) (Value.agg (List.toArray (List.map (fun n => Value.int IntKind.i64 n) (En.p l[i]))))))) (by kernel_rfl) (by kernel_rfl) (wants_tt g27 (by kernel_rfl)) ?_ (fun cf => (by kernel_rfl))
        refine WpOps.framed 26 95 [Value.iface 3 (Value.iface (List.length a) (Value.iface y (Value.agg (List.toArray (List.map (fun n => Value.int IntKind.i64 n) a))))), Value.iface 3 (Value.iface (List.length (En.p l[i])) (Value.iface (En.x l[i]) (Value.agg (List.toArray (List.map (fun n => Value.int IntKind.i64 n) (En.p l[i]))))))] (by kernel_rfl) (by kernel_rfl) (wants_tt g27 (by kernel_rfl)) (by kernel_rfl) (by kernel_rfl) (fun cf => (by kernel_rfl)) ?_
        refine WpFun.of (c1) ?_
        refine WpOps.keep 27 (Value.bool (beginsB a (En.p l[i]))) (by kernel_rfl) (by kernel_rfl) (by kernel_rfl) ?_ (fun cf => o_pickT g27 (by kernel_rfl) (by kernel_rfl))
        refine WpOps.nil ?_
        exact ⟨rfl, (.upd rfl (.upd rfl (.upd rfl (.upd rfl (.upd rfl .refl))))), (by kernel_rfl)⟩
      · refine WpOps.unmet 23 (by kernel_rfl) (by kernel_rfl) (wants_ft g27 (by kernel_rfl)) ?_
        refine WpOps.unmet 24 (by kernel_rfl) (by kernel_rfl) (wants_ft g27 (by kernel_rfl)) ?_
        refine WpOps.unmet 25 (by kernel_rfl) (by kernel_rfl) (wants_ft g27 (by kernel_rfl)) ?_
        refine WpOps.unmet 26 (by kernel_rfl) (by kernel_rfl) (wants_ft g27 (by kernel_rfl)) ?_
        refine WpOps.keep 27 (Value.bool false) (by kernel_rfl) (by kernel_rfl) (by kernel_rfl) ?_ (fun cf => o_pickF g27 (by kernel_rfl) (by kernel_rfl))
        refine WpOps.nil ?_
        exact ⟨rfl, (.upd rfl (.upd rfl (.upd rfl (.upd rfl (.upd rfl .refl))))), (by kernel_rfl)⟩
      refine WpOps.keep 28 (Value.bool b27) (by kernel_rfl) (by kernel_rfl) (by kernel_rfl) ?_ (fun cf => (by kernel_rfl))
      refine WpOps.fork 15 (b27) [29, 30, 31, 32, 33, 34, 35, 36, 37, 38, 39, 40, 41, 42, 43] 43 (decide ((↑(List.length (En.p l[i])) : Int) > (↑(List.length (En.p l[Int.toNat (bestAt l a i)])) : Int))) (false) (by kernel_rfl) (fun g43 => ?_) (fun g43 => ?_) (fun f_43 b43 hb43 => ?_)
      · refine WpOps.keep 29 (Value.int IntKind.i64 (bestAt l a i)) (by kernel_rfl) (by kernel_rfl) (wants_tt g43 (by kernel_rfl)) ?_ (fun cf => (by kernel_rfl))
        refine WpOps.keep 30 (Value.bool false) (by kernel_rfl) (by kernel_rfl) (wants_tt g43 (by kernel_rfl)) ?_ (fun cf => by_fact z1 ((by kernel_rfl)))
        refine WpOps.keep 31 (Value.bool false) (by kernel_rfl) (by kernel_rfl) (wants_tt g43 (by kernel_rfl)) ?_ (fun cf => (by kernel_rfl))
        refine WpOps.keep 32 (Value.pointer (some (Addr.mk 0 0 none))) (by kernel_rfl) (by kernel_rfl) (by kernel_rfl) ?_ (fun cf => (by kernel_rfl))
        refine WpOps.keep 33 (Value.iface 3 (Value.iface (List.length (En.p l[i])) (Value.iface (En.x l[i]) (Value.agg (List.toArray (List.map (fun n => Value.int IntKind.i64 n) (En.p l[i]))))))) (by kernel_rfl) (by kernel_rfl) (by kernel_rfl) ?_ (fun cf => (by kernel_rfl))
        refine WpOps.keep 34 (Value.int IntKind.i64 (↑(List.length (En.p l[i])) : Int)) (by kernel_rfl) (by kernel_rfl) (by kernel_rfl) ?_ (fun cf => (by kernel_rfl))
        refine WpOps.keep 35 (Value.iface 98 (Value.iface (List.length l) (Value.iface x (Value.agg (List.toArray (List.flatMap ec l)))))) (by kernel_rfl) (by kernel_rfl) (by kernel_rfl) ?_ (fun cf => (by kernel_rfl))
        refine WpOps.keep 36 (Value.int IntKind.i64 (bestAt l a i)) (by kernel_rfl) (by kernel_rfl) (by kernel_rfl) ?_ (fun cf => (by kernel_rfl))
        refine WpOps.keep 37 (Value.iface 98 (Value.iface (Int.toNat (bestAt l a i) * 2) (Value.agg (List.toArray (List.flatMap ec l))))) (by kernel_rfl) (by kernel_rfl) (by kernel_rfl) ?_ (fun cf => o_indexI (e := 98) (size := 2) (a := bestAt l a i) h1 (by kernel_rfl) (by kernel_rfl) (by kernel_rfl) (by kernel_rfl))
        refine WpOps.keep 38 (Value.iface 98 (Value.iface (Int.toNat (bestAt l a i) * 2 + 0) (Value.agg (List.toArray (List.flatMap ec l))))) (by kernel_rfl) (by kernel_rfl) (by kernel_rfl) ?_ (fun cf => (by kernel_rfl))
        refine WpOps.keep 39 (Value.iface 3 (Value.iface (List.length (En.p l[Int.toNat (bestAt l a i)])) (Value.iface (En.x l[Int.toNat (bestAt l a i)]) (Value.agg (List.toArray (List.map (fun n => Value.int IntKind.i64 n) (En.p l[Int.toNat (bestAt l a i)]))))))) (by kernel_rfl) (by kernel_rfl) (by kernel_rfl) ?_ (fun cf => o_loadI1 (Int.toNat (bestAt l a i) * 2 + 0) hw (by kernel_rfl) (by kernel_rfl))
        refine WpOps.keep 40 (Value.int IntKind.i64 (↑(List.length (En.p l[Int.toNat (bestAt l a i)])) : Int)) (by kernel_rfl) (by kernel_rfl) (by kernel_rfl) ?_ (fun cf => (by kernel_rfl))
        refine WpOps.keep 41 (Value.bool (decide ((↑(List.length (En.p l[i])) : Int) > (↑(List.length (En.p l[Int.toNat (bestAt l a i)])) : Int)))) (by kernel_rfl) (by kernel_rfl) (by kernel_rfl) ?_ (fun cf => (by kernel_rfl))
        refine WpOps.keep 42 (Value.bool (decide ((↑(List.length (En.p l[i])) : Int) > (↑(List.length (En.p l[Int.toNat (bestAt l a i)])) : Int)))) (by kernel_rfl) (by kernel_rfl) (wants_tt g43 (by kernel_rfl)) ?_ (fun cf => (by kernel_rfl))
        refine WpOps.keep 43 (Value.bool (decide ((↑(List.length (En.p l[i])) : Int) > (↑(List.length (En.p l[Int.toNat (bestAt l a i)])) : Int)))) (by kernel_rfl) (by kernel_rfl) (by kernel_rfl) ?_ (fun cf => o_pickT g43 (by kernel_rfl) (by kernel_rfl))
        refine WpOps.nil ?_
        exact ⟨rfl, (.upd rfl (.upd rfl (.upd rfl (.upd rfl (.upd rfl (.upd rfl (.upd rfl (.upd rfl (.upd rfl (.upd rfl (.upd rfl (.upd rfl (.upd rfl (.upd rfl (.upd rfl .refl))))))))))))))), (by kernel_rfl)⟩
      · refine WpOps.unmet 29 (by kernel_rfl) (by kernel_rfl) (wants_ft g43 (by kernel_rfl)) ?_
        refine WpOps.unmet 30 (by kernel_rfl) (by kernel_rfl) (wants_ft g43 (by kernel_rfl)) ?_
        refine WpOps.unmet 31 (by kernel_rfl) (by kernel_rfl) (wants_ft g43 (by kernel_rfl)) ?_
        refine WpOps.unmet 32 (by kernel_rfl) (by kernel_rfl) (by kernel_rfl) ?_
        refine WpOps.unmet 33 (by kernel_rfl) (by kernel_rfl) (by kernel_rfl) ?_
        refine WpOps.unmet 34 (by kernel_rfl) (by kernel_rfl) (by kernel_rfl) ?_
        refine WpOps.unmet 35 (by kernel_rfl) (by kernel_rfl) (by kernel_rfl) ?_
        refine WpOps.unmet 36 (by kernel_rfl) (by kernel_rfl) (by kernel_rfl) ?_
        refine WpOps.unmet 37 (by kernel_rfl) (by kernel_rfl) (by kernel_rfl) ?_
        refine WpOps.unmet 38 (by kernel_rfl) (by kernel_rfl) (by kernel_rfl) ?_
        refine WpOps.unmet 39 (by kernel_rfl) (by kernel_rfl) (by kernel_rfl) ?_
        refine WpOps.unmet 40 (by kernel_rfl) (by kernel_rfl) (by kernel_rfl) ?_
        refine WpOps.unmet 41 (by kernel_rfl) (by kernel_rfl) (by kernel_rfl) ?_
        refine WpOps.unmet 42 (by kernel_rfl) (by kernel_rfl) (wants_ft g43 (by kernel_rfl)) ?_
        refine WpOps.keep 43 (Value.bool false) (by kernel_rfl) (by kernel_rfl) (by kernel_rfl) ?_ (fun cf => o_pickF g43 (by kernel_rfl) (by kernel_rfl))
        refine WpOps.nil ?_
        exact ⟨rfl, (.upd rfl (.upd rfl (.upd rfl (.upd rfl (.upd rfl (.upd rfl (.upd rfl (.upd rfl (.upd rfl (.upd rfl (.upd rfl (.upd rfl (.upd rfl (.upd rfl (.upd rfl .refl))))))))))))))), (by kernel_rfl)⟩
      refine WpOps.nil ?_
      refine thenK_at ?_
      have hr : b43 = better l a (bestAt l a i) i := by
        have d1 : decide (((l[i]).p.length : Int) ≤ 10) = decide ((l[i]).p.length ≤ 10) := decide_eq_decide.2 (by omega)
        have d2 : decide (((l[i]).p.length : Int) > ((l[(bestAt l a i).toNat]'(by omega)).p.length : Int)) = decide ((l[i]).p.length > (l[(bestAt l a i).toNat]'(by omega)).p.length) := decide_eq_decide.2 (by omega)
        rw [hb43, hb27, d1, d2]
        unfold better
        rw [ge, gb, z1]
        cases decide ((l[i]).p.length ≤ 10) <;> cases beginsB a (l[i]).p <;> rfl
      refine Wp.split (b43) (by kernel_rfl) (fun hb => ?_) (fun hb => ?_)
      · have e1 : bestAt l a (i + 1) = i := if_pos (by rw [← hr]; exact hb)
        refine Wp.text ?_
        refine WpOps.keep 44 (Value.int IntKind.i64 (↑i : Int)) (by kernel_rfl) (by kernel_rfl) (by kernel_rfl) ?_ (fun cf => (by kernel_rfl))
        refine WpOps.keep 7 (Value.int IntKind.i64 (↑i : Int)) (by kernel_rfl) (by kernel_rfl) (by kernel_rfl) ?_ (fun cf => (by kernel_rfl))
        refine WpOps.nil ?_
        refine blockK_norm ?_
        refine thenK_at ?_
        refine Wp.text ?_
        refine WpOps.keep 45 (Value.int IntKind.i64 (IntKind.wrap IntKind.i64 ((↑i : Int) + 1))) (by kernel_rfl) (by kernel_rfl) (by kernel_rfl) ?_ (fun cf => (by kernel_rfl))
        refine WpOps.keep 12 (Value.int IntKind.i64 (IntKind.wrap IntKind.i64 ((↑i : Int) + 1))) (by kernel_rfl) (by kernel_rfl) (by kernel_rfl) ?_ (fun cf => (by kernel_rfl))
        refine WpOps.nil ?_
        refine thenK_at ?_
        exact ⟨i + 1, by omega, by omega, View.of [] [] _ List.nodup_nil rfl trivial ⟨⟨by kernel_rfl, rfl⟩, ⟨by kernel_rfl, rfl⟩, ⟨by kernel_rfl, rfl⟩, ⟨congrArg (Value.int .i64) e1.symm, rfl⟩, ⟨by kernel_rfl, rfl⟩, ⟨by kernel_rfl, rfl⟩, ⟨congrArg (Value.int .i64) (wrap_i64 ((i : Int) + 1) (by omega) (by omega)), rfl⟩, trivial⟩⟩
      · have e1 : bestAt l a (i + 1) = bestAt l a i := if_neg (by rw [← hr, hb]; decide)
        refine Wp.skip ?_
        refine blockK_norm ?_
        refine thenK_at ?_
        refine Wp.text ?_
        refine WpOps.keep 45 (Value.int IntKind.i64 (IntKind.wrap IntKind.i64 ((↑i : Int) + 1))) (by kernel_rfl) (by kernel_rfl) (by kernel_rfl) ?_ (fun cf => (by kernel_rfl))
        refine WpOps.keep 12 (Value.int IntKind.i64 (IntKind.wrap IntKind.i64 ((↑i : Int) + 1))) (by kernel_rfl) (by kernel_rfl) (by kernel_rfl) ?_ (fun cf => (by kernel_rfl))
        refine WpOps.nil ?_
        refine thenK_at ?_
        exact ⟨i + 1, by omega, by omega, View.of [] [] _ List.nodup_nil rfl trivial ⟨⟨by kernel_rfl, rfl⟩, ⟨by kernel_rfl, rfl⟩, ⟨by kernel_rfl, rfl⟩, ⟨congrArg (Value.int .i64) e1.symm, rfl⟩, ⟨by kernel_rfl, rfl⟩, ⟨by kernel_rfl, rfl⟩, ⟨congrArg (Value.int .i64) (wrap_i64 ((i : Int) + 1) (by omega) (by omega)), rfl⟩, trivial⟩⟩
  · obtain rfl : i = l.length := by have := of_decide_eq_false hc; omega
    refine Wp.exit ?_
    refine thenK_exit ?_
    refine thenK_exit ?_
    refine blockK_hit ?_
    refine thenK_at ?_
    refine Wp.seq ?_
    refine Wp.text ?_
    refine WpOps.keep 46 (Value.int IntKind.i64 (bestAt l a (List.length l))) (by kernel_rfl) (by kernel_rfl) (by kernel_rfl) ?_ (fun cf => (by kernel_rfl))
    refine WpOps.keep 6 (Value.int IntKind.i64 (bestAt l a (List.length l))) (by kernel_rfl) (by kernel_rfl) (by kernel_rfl) ?_ (fun cf => (by kernel_rfl))
    refine WpOps.nil ?_
    refine thenK_at ?_
    refine Wp.ret ?_
    refine endK_retn [Value.int IntKind.i64 (bestAt l a (List.length l))] (Value.int IntKind.i64 (bestAt l a (List.length l))) (by kernel_rfl) (by kernel_rfl) ?_
    rfl
theorem f96 : E.funcs 96 = some Try.f96 := by kernel_rfl
theorem flat_un {v : Value} (h : flat v = true) (rl : List Nat) (m : Nat) : v = unC rl v ∧ okC m v = true := by
  cases v with
  | pointer a => cases a with
    | none => exact ⟨rfl, rfl⟩
    | some a => cases h
  | slice a n c => cases a with
    | none => exact ⟨rfl, rfl⟩
    | some a => cases h
  | _ => exact ⟨rfl, h⟩
theorem toldFlat {hR : Heap} {rl : List Nat} {m : Nat} {E : Env} : ∀ {l : List Value}, l.all flat = true → All2 (ToldC E hR rl m) l l
  | [], _ => .nil
  | v :: l, h => by
    simp only [List.all_cons, Bool.and_eq_true] at h
    exact .cons (.inl (flat_un h.1 rl m)) (toldFlat h.2)
theorem ec_flat (l : List En) : (l.flatMap ec).all flat = true := by
  rw [List.all_eq_true]
  intro v hv
  obtain ⟨e, _, he⟩ := List.mem_flatMap.1 hv
  exact List.all_eq_true.1 (show (ec e).all flat = true from rfl) v he
theorem clone96 (l : List En) (h0 : 0 < l.length) (hl : l.length ≤ 100) : Lent E 96 [ents 98 0 l] [] (.slice (some ⟨0, 0, none⟩) l.length l.length) [⟨98, true, l.flatMap ec⟩] := by
  refine Lent.of f96 rfl (of_decide_eq_true (by kernel_rfl)) rfl rfl (Nat.zero_le _) rfl (by
    show ((l.flatMap ec).all (okC 1) && true) = true
    rw [Bool.and_true, List.all_eq_true]
    exact fun v hv => (flat_un (List.all_eq_true.1 (ec_flat l) v hv) [] 1).2) rfl ?_
  have a0 : ¬ (0 + l.length ≤ 0) := by omega
  have a1 : 1 ≤ 32 ∧ (0 + l.length) * 32 ≤ 140737488355328 ∧ 2 = 2 ∧ 0 + l.length ≤ 9223372036854775807 := by omega
  refine Wp.seq ?_
  refine Wp.text ?_
  refine WpOps.keep 2 (Value.slice none 0 0) (by kernel_rfl) (by kernel_rfl) (by kernel_rfl) ?_ (fun cf => (by kernel_rfl))
  refine WpOps.nil ?_
  refine thenK_at ?_
  refine Wp.seq ?_
  refine Wp.seq ?_
  refine Wp.text ?_
  refine WpOps.keep 3 (Value.iface 98 (Value.iface (List.length l) (Value.iface 0 (Value.agg (List.toArray (List.flatMap ec l)))))) (by kernel_rfl) (by kernel_rfl) (by kernel_rfl) ?_ (fun cf => (by kernel_rfl))
  refine WpOps.keep 4 (Value.bool false) (by kernel_rfl) (by kernel_rfl) (by kernel_rfl) ?_ (fun cf => (by kernel_rfl))
  refine WpOps.nil ?_
  refine thenK_at ?_
  refine Wp.off (by kernel_rfl) ?_
  refine Wp.skip ?_
  refine thenK_at ?_
  refine Wp.seq ?_
  refine Wp.text ?_
  refine WpOps.made 5 (Value.slice (some (Addr.mk 0 0 none)) 0 0) (Blk.mk 98 true []) (by kernel_rfl) (by kernel_rfl) (by kernel_rfl) ?_ (fun cf => (by kernel_rfl))
  refine WpOps.keep 6 (Value.iface 98 (Value.iface (List.length l) (Value.iface 0 (Value.agg (List.toArray (List.flatMap ec l)))))) (by kernel_rfl) (by kernel_rfl) (by kernel_rfl) ?_ (fun cf => (by kernel_rfl))
  refine WpOps.chg 7 (Value.slice (some (Addr.mk 1 0 none)) (0 + List.length l) (0 + List.length l)) (Heap.alloc (Heap.set (Heap.alloc (heapOf []) (Blk.mk 98 true [])) 0 none) (Blk.mk 98 true ([] ++ Array.toList (List.toArray (List.flatMap ec l))))) (by kernel_rfl) (by kernel_rfl) (by kernel_rfl) ?_ (fun cf => o_append (e := 98) 0 (0) (0) _ (0) a0 a1 (by kernel_rfl) (by kernel_rfl) (by kernel_rfl) (by kernel_rfl) (by kernel_rfl))
  refine WpOps.keep 2 (Value.slice (some (Addr.mk 1 0 none)) (0 + List.length l) (0 + List.length l)) (by kernel_rfl) (by kernel_rfl) (by kernel_rfl) ?_ (fun cf => (by kernel_rfl))
  refine WpOps.nil ?_
  refine thenK_at ?_
  refine Wp.ret ?_
  refine endK_retn [Value.slice (some (Addr.mk 1 0 none)) (0 + List.length l) (0 + List.length l)] (Value.slice (some (Addr.mk 1 0 none)) (0 + List.length l) (0 + List.length l)) (by kernel_rfl) (by kernel_rfl) ?_
  refine ⟨[1], by decide, by kernel_rfl, ⟨⟨_, rfl, ?_⟩, trivial⟩, .w (.un ?_ rfl)⟩
  · exact toldFlat (ec_flat l)
  · rw [Nat.zero_add]
    rfl
theorem f86 : E.funcs 86 = some Try.f86 := by kernel_rfl
theorem own86 (e : En) (ok : OkEn e) : Fun E 86 [ents 98 0 [e]] (ents 98 0 [{ e with x := nx e.x }]) := by
  refine Fun.of f86 rfl (of_decide_eq_true (by kernel_rfl)) rfl ?_
  have c1 := clone96 [e] (Nat.le_refl 1) (show 1 ≤ 100 by decide)
  have c2 := clone81 e.x e.p ok.x ok.l
  refine Wp.seq ?_
  refine Wp.text ?_
  refine WpOps.keep 2 (Value.slice none 0 0) (by kernel_rfl) (by kernel_rfl) (by kernel_rfl) ?_ (fun cf => (by kernel_rfl))
  refine WpOps.nil ?_
  refine thenK_at ?_
  refine Wp.seq ?_
  refine Wp.text ?_
  refine WpOps.keep 5 (Value.iface 98 (Value.iface (List.length [e]) (Value.iface 0 (Value.agg (List.toArray (List.flatMap ec [e])))))) (by kernel_rfl) (by kernel_rfl) (by kernel_rfl) ?_ (fun cf => (by kernel_rfl))
  refine WpOps.called 6 96 [Value.iface 98 (Value.iface (List.length [e]) (Value.iface 0 (Value.agg (List.toArray (List.flatMap ec [e])))))] (by kernel_rfl) (by kernel_rfl) (by kernel_rfl) (by kernel_rfl) (fun cf => (by kernel_rfl)) ?_
  refine WpCall.lent [] (c1) (by decide) trivial (by kernel_rfl) (Value.slice (some (Addr.mk (List.getD [0] 0 0) 0 none)) (List.length [e]) (List.length [e])) ([Blk.mk 98 true [Value.iface 3 (Value.iface (List.length (En.p e)) (Value.iface (En.x e) (Value.agg (List.toArray (List.map (fun n => Value.int IntKind.i64 n) (En.p e)))))), Value.int IntKind.i64 (En.to e)]]) (.cons (by kernel_rfl) .nil) (by kernel_rfl) (Heap.alloc Heap.none (Blk.mk 98 true [Value.iface 3 (Value.iface (List.length (En.p e)) (Value.iface (En.x e) (Value.agg (List.toArray (List.map (fun n => Value.int IntKind.i64 n) (En.p e)))))), Value.int IntKind.i64 (En.to e)])) (by kernel_rfl) ?_
  refine WpOps.keep 3 (Value.slice (some (Addr.mk 0 0 none)) (List.length [e]) (List.length [e])) (by kernel_rfl) (by kernel_rfl) (by kernel_rfl) ?_ (fun cf => (by kernel_rfl))
  refine WpOps.nil ?_
  refine thenK_at ?_
  refine Wp.seq ?_
  refine Wp.seq ?_
  refine Wp.text ?_
  refine WpOps.keep 7 (Value.slice (some (Addr.mk 0 0 none)) (List.length [e]) (List.length [e])) (by kernel_rfl) (by kernel_rfl) (by kernel_rfl) ?_ (fun cf => (by kernel_rfl))
  refine WpOps.keep 8 (Value.int IntKind.i64 (↑(List.length [e]) : Int)) (by kernel_rfl) (by kernel_rfl) (by kernel_rfl) ?_ (fun cf => (by kernel_rfl))
  refine WpOps.keep 9 (Value.int IntKind.i64 0) (by kernel_rfl) (by kernel_rfl) (by kernel_rfl) ?_ (fun cf => (by kernel_rfl))
  refine WpOps.nil ?_
  refine thenK_at ?_
  refine Wp.block ?_
  refine Wp.unroll (WpL.step ?_)
  refine Wp.seq ?_
  refine Wp.text ?_
  refine WpOps.keep 10 (Value.bool (decide (0 < (↑(List.length [e]) : Int)))) (by kernel_rfl) (by kernel_rfl) (by kernel_rfl) ?_ (fun cf => (by kernel_rfl))
  refine WpOps.nil ?_
  refine thenK_at ?_
  refine Wp.seq ?_
  refine Wp.on (by kernel_rfl) ?_
  refine Wp.skip ?_
  refine thenK_at ?_
  refine Wp.seq ?_
  refine Wp.block ?_
  refine Wp.seq ?_
  refine Wp.text ?_
  refine WpOps.keep 11 (Value.int IntKind.i64 0) (by kernel_rfl) (by kernel_rfl) (by kernel_rfl) ?_ (fun cf => (by kernel_rfl))
  refine WpOps.keep 4 (Value.int IntKind.i64 0) (by kernel_rfl) (by kernel_rfl) (by kernel_rfl) ?_ (fun cf => (by kernel_rfl))
  refine WpOps.nil ?_
  refine thenK_at ?_
  refine Wp.text ?_
  refine WpOps.keep 12 (Value.slice (some (Addr.mk 0 0 none)) (List.length [e]) (List.length [e])) (by kernel_rfl) (by kernel_rfl) (by kernel_rfl) ?_ (fun cf => (by kernel_rfl))
  refine WpOps.keep 13 (Value.int IntKind.i64 0) (by kernel_rfl) (by kernel_rfl) (by kernel_rfl) ?_ (fun cf => (by kernel_rfl))
  refine WpOps.keep 14 (Value.slice (some (Addr.mk 0 0 none)) (List.length [e]) (List.length [e])) (by kernel_rfl) (by kernel_rfl) (by kernel_rfl) ?_ (fun cf => (by kernel_rfl))
  refine WpOps.keep 15 (Value.int IntKind.i64 0) (by kernel_rfl) (by kernel_rfl) (by kernel_rfl) ?_ (fun cf => (by kernel_rfl))
  refine WpOps.keep 16 (Value.pointer (some (Addr.mk 0 0 none))) (by kernel_rfl) (by kernel_rfl) (by kernel_rfl) ?_ (fun cf => (by kernel_rfl))
  refine WpOps.keep 17 (Value.pointer (some (Addr.mk 0 0 none))) (by kernel_rfl) (by kernel_rfl) (by kernel_rfl) ?_ (fun cf => (by kernel_rfl))
  refine WpOps.keep 18 (Value.iface 3 (Value.iface (List.length (En.p e)) (Value.iface (En.x e) (Value.agg (List.toArray (List.map (fun n => Value.int IntKind.i64 n) (En.p e))))))) (by kernel_rfl) (by kernel_rfl) (by kernel_rfl) ?_ (fun cf => (by kernel_rfl))
  refine WpOps.framed 19 81 [Value.iface 3 (Value.iface (List.length (En.p e)) (Value.iface (En.x e) (Value.agg (List.toArray (List.map (fun n => Value.int IntKind.i64 n) (En.p e))))))] (by kernel_rfl) (by kernel_rfl) (by kernel_rfl) (by kernel_rfl) (by kernel_rfl) (fun cf => (by kernel_rfl)) ?_
  refine WpFun.of (c2) ?_
  refine WpOps.keep 20 (Value.pointer (some (Addr.mk 0 0 none))) (by kernel_rfl) (by kernel_rfl) (by kernel_rfl) ?_ (fun cf => (by kernel_rfl))
  refine WpOps.keep 21 (Value.pointer (some (Addr.mk 0 0 none))) (by kernel_rfl) (by kernel_rfl) (by kernel_rfl) ?_ (fun cf => (by kernel_rfl))
  refine WpOps.laid (Value.tuple #[]) (0) (Blk.mk 98 true [Value.iface 3 (Value.iface (List.length (En.p e)) (Value.iface (nx (En.x e)) (Value.agg (List.toArray (List.map (fun n => Value.int IntKind.i64 n) (En.p e)))))), Value.int IntKind.i64 (En.to e)]) (by kernel_rfl) (by kernel_rfl) (by kernel_rfl) ?_ (fun cf => (by kernel_rfl))
  refine WpOps.nil ?_
  refine blockK_norm ?_
  refine thenK_at ?_
  refine Wp.text ?_
  refine WpOps.keep 22 (Value.int IntKind.i64 (IntKind.wrap IntKind.i64 (0 + 1))) (by kernel_rfl) (by kernel_rfl) (by kernel_rfl) ?_ (fun cf => (by kernel_rfl))
  refine WpOps.keep 9 (Value.int IntKind.i64 (IntKind.wrap IntKind.i64 (0 + 1))) (by kernel_rfl) (by kernel_rfl) (by kernel_rfl) ?_ (fun cf => (by kernel_rfl))
  refine WpOps.nil ?_
  refine thenK_at ?_
  refine WpL.step ?_
  refine Wp.seq ?_
  refine Wp.text ?_
  refine WpOps.keep 10 (Value.bool (decide (IntKind.wrap IntKind.i64 (0 + 1) < (↑(List.length [e]) : Int)))) (by kernel_rfl) (by kernel_rfl) (by kernel_rfl) ?_ (fun cf => (by kernel_rfl))
  refine WpOps.nil ?_
  refine thenK_at ?_
  refine Wp.seq ?_
  refine Wp.off (by kernel_rfl) ?_
  refine Wp.exit ?_
  refine thenK_exit ?_
  refine thenK_exit ?_
  refine blockK_hit ?_
  refine thenK_at ?_
  refine Wp.seq ?_
  refine Wp.text ?_
  refine WpOps.keep 23 (Value.slice (some (Addr.mk 0 0 none)) (List.length [e]) (List.length [e])) (by kernel_rfl) (by kernel_rfl) (by kernel_rfl) ?_ (fun cf => (by kernel_rfl))
  refine WpOps.keep 2 (Value.slice (some (Addr.mk 0 0 none)) (List.length [e]) (List.length [e])) (by kernel_rfl) (by kernel_rfl) (by kernel_rfl) ?_ (fun cf => (by kernel_rfl))
  refine WpOps.nil ?_
  refine thenK_at ?_
  refine Wp.ret ?_
  refine endK_retn [Value.slice (some (Addr.mk 0 0 none)) (List.length [e]) (List.length [e])] (Value.slice (some (Addr.mk 0 0 none)) (List.length [e]) (List.length [e])) (by kernel_rfl) (by kernel_rfl) ?_
  kernel_rfl
/-- The entry that is found. -/
def found (l : List En) (a : List Int) : Option En := if bestAt l a l.length < 0 then none else some (l.getD (bestAt l a l.length).toNat zE)
def zV : Value := .agg #[.slice none 0 0, .int .i64 0]
def findV (l : List En) (a : List Int) : Value := if tblOk l = true then (match found l a with
    | some e => .tuple #[evl { e with x := nx e.x }, .int .i64 0]
    | none => .tuple #[zV, .int .i64 3]) else .tuple #[zV, .int .i64 1]
theorem findV_ice (l : List En) (a : List Int) : iceV E Heap.none (findV l a) = some (findV l a) := by
  unfold findV
  split
  · split <;> rfl
  · rfl
theorem f73 : E.funcs 73 = some Try.f73 := by kernel_rfl
theorem ents_take (l : List En) (i x : Nat) (hi : i < l.length) : FS 98 (((i + 1 : Nat) : Int).toNat - ((i : Nat) : Int).toNat) x (List.take ((((i + 1 : Nat) : Int).toNat - ((i : Nat) : Int).toNat) * 2) (List.drop (((i : Nat) : Int).toNat * 2) (l.flatMap ec).toArray.toList)).toArray = ents 98 x [l.getD i zE] := by
  have ge : l.getD i zE = l[i] := by rw [List.getD_eq_getElem?_getD, List.getElem?_eq_getElem hi]; rfl
  rw [Int.toNat_natCast, Int.toNat_natCast, Nat.add_sub_cancel_left, ge]
  show FS 98 1 x (List.take 2 (List.drop (i * 2) (l.flatMap ec))).toArray = _
  rw [flat_drop ec 2 (fun _ => rfl) l i hi]
  rfl
theorem find73 (x y : Nat) (l : List En) (a : List Int) (hx : x = 0 ∨ (x = 2 ∧ l = [])) (ok : ∀ e ∈ l, OkEn e) (ha : isAddr a = true) (ha2 : a.length ≤ 9223372036854775806) : Fun E 73 [ents 98 x l, sl y a] (findV l a) := by
  refine Fun.of f73 rfl (of_decide_eq_true (by kernel_rfl)) (findV_ice l a) ?_
  have c1 := valid49 y a ha2
  rw [ha] at c1
  have c2 := entries84 x l ok
  unfold findV
  cases ht : tblOk l with
  | false =>
    rw [ht] at c2
    refine Wp.seq ?_
    refine Wp.text ?_
    refine WpOps.made 4 (Value.pointer (some (Addr.mk 0 0 none))) (Blk.mk 98 true [Value.slice none 0 0, Value.int IntKind.i64 0]) (by kernel_rfl) (by kernel_rfl) (by kernel_rfl) ?_ (fun cf => (by kernel_rfl))
    refine WpOps.keep 5 (Value.int IntKind.i64 0) (by kernel_rfl) (by kernel_rfl) (by kernel_rfl) ?_ (fun cf => (by kernel_rfl))
    refine WpOps.nil ?_
    refine thenK_at ?_
    refine Wp.seq ?_
    refine Wp.seq ?_
    refine Wp.text ?_
    refine WpOps.keep 8 (Value.iface 3 (Value.iface (List.length a) (Value.iface y (Value.agg (List.toArray (List.map (fun n => Value.int IntKind.i64 n) a)))))) (by kernel_rfl) (by kernel_rfl) (by kernel_rfl) ?_ (fun cf => (by kernel_rfl))
    refine WpOps.framed 9 49 [Value.iface 3 (Value.iface (List.length a) (Value.iface y (Value.agg (List.toArray (List.map (fun n => Value.int IntKind.i64 n) a)))))] (by kernel_rfl) (by kernel_rfl) (by kernel_rfl) (by kernel_rfl) (by kernel_rfl) (fun cf => (by kernel_rfl)) ?_
    refine WpFun.of (c1) ?_
    refine WpOps.keep 10 (Value.bool false) (by kernel_rfl) (by kernel_rfl) (by kernel_rfl) ?_ (fun cf => (by kernel_rfl))
    refine WpOps.nil ?_
    refine thenK_at ?_
    refine Wp.off (by kernel_rfl) ?_
    refine Wp.skip ?_
    refine thenK_at ?_
    refine Wp.seq ?_
    refine Wp.seq ?_
    refine Wp.text ?_
    refine WpOps.keep 12 (Value.iface 98 (Value.iface (List.length l) (Value.iface x (Value.agg (List.toArray (List.flatMap ec l)))))) (by kernel_rfl) (by kernel_rfl) (by kernel_rfl) ?_ (fun cf => (by kernel_rfl))
    refine WpOps.framed 13 84 [Value.iface 98 (Value.iface (List.length l) (Value.iface x (Value.agg (List.toArray (List.flatMap ec l)))))] (by kernel_rfl) (by kernel_rfl) (by kernel_rfl) (by kernel_rfl) (by kernel_rfl) (fun cf => (by kernel_rfl)) ?_
    refine WpFun.of (c2) ?_
    refine WpOps.keep 6 (Value.int IntKind.i64 (if false = true then 0 else 1)) (by kernel_rfl) (by kernel_rfl) (by kernel_rfl) ?_ (fun cf => (by kernel_rfl))
    refine WpOps.nil ?_
    refine thenK_at ?_
    refine Wp.seq ?_
    refine Wp.text ?_
    refine WpOps.keep 14 (Value.int IntKind.i64 (if false = true then 0 else 1)) (by kernel_rfl) (by kernel_rfl) (by kernel_rfl) ?_ (fun cf => (by kernel_rfl))
    refine WpOps.keep 15 (Value.bool true) (by kernel_rfl) (by kernel_rfl) (by kernel_rfl) ?_ (fun cf => (by kernel_rfl))
    refine WpOps.nil ?_
    refine thenK_at ?_
    refine Wp.on (by kernel_rfl) ?_
    refine Wp.seq ?_
    refine Wp.text ?_
    refine WpOps.keep 16 (Value.agg #[Value.slice none 0 0, Value.int IntKind.i64 0]) (by kernel_rfl) (by kernel_rfl) (by kernel_rfl) ?_ (fun cf => (by kernel_rfl))
    refine WpOps.keep 17 (Value.int IntKind.i64 (if false = true then 0 else 1)) (by kernel_rfl) (by kernel_rfl) (by kernel_rfl) ?_ (fun cf => (by kernel_rfl))
    refine WpOps.laid (Value.tuple #[]) (0) (Blk.mk 98 true [Value.slice none 0 0, Value.int IntKind.i64 0]) (by kernel_rfl) (by kernel_rfl) (by kernel_rfl) ?_ (fun cf => (by kernel_rfl))
    refine WpOps.keep 5 (Value.int IntKind.i64 (if false = true then 0 else 1)) (by kernel_rfl) (by kernel_rfl) (by kernel_rfl) ?_ (fun cf => (by kernel_rfl))
    refine WpOps.nil ?_
    refine thenK_at ?_
    refine Wp.ret ?_
    refine thenK_ret ?_
    refine endK_retn [Value.agg #[Value.slice none 0 0, Value.int IntKind.i64 0], Value.int IntKind.i64 (if false = true then 0 else 1)] (Value.tuple #[Value.agg #[Value.slice none 0 0, Value.int IntKind.i64 0], Value.int IntKind.i64 (if false = true then 0 else 1)]) (by kernel_rfl) (by kernel_rfl) ?_
    kernel_rfl
  | true =>
    rw [ht] at c2
    have hl : l.length ≤ 100 := by
      unfold tblOk at ht
      simp only [Bool.and_eq_true, decide_eq_true_eq] at ht
      exact ht.1
    have c3 := find85 x y l a hl ha2
    have hb := best_in l a l.length
    unfold found
    by_cases hz : bestAt l a l.length < 0
    · have z1 : decide (bestAt l a l.length < 0) = true := decide_eq_true hz
      rw [if_pos hz]
      refine Wp.seq ?_
      refine Wp.text ?_
      refine WpOps.made 4 (Value.pointer (some (Addr.mk 0 0 none))) (Blk.mk 98 true [Value.slice none 0 0, Value.int IntKind.i64 0]) (by kernel_rfl) (by kernel_rfl) (by kernel_rfl) ?_ (fun cf => (by kernel_rfl))
      refine WpOps.keep 5 (Value.int IntKind.i64 0) (by kernel_rfl) (by kernel_rfl) (by kernel_rfl) ?_ (fun cf => (by kernel_rfl))
      refine WpOps.nil ?_
      refine thenK_at ?_
      refine Wp.seq ?_
      refine Wp.seq ?_
      refine Wp.text ?_
      refine WpOps.keep 8 (Value.iface 3 (Value.iface (List.length a) (Value.iface y (Value.agg (List.toArray (List.map (fun n => Value.int IntKind.i64 n) a)))))) (by kernel_rfl) (by kernel_rfl) (by kernel_rfl) ?_ (fun cf => (by kernel_rfl))
      refine WpOps.framed 9 49 [Value.iface 3 (Value.iface (List.length a) (Value.iface y (Value.agg (List.toArray (List.map (fun n => Value.int IntKind.i64 n) a)))))] (by kernel_rfl) (by kernel_rfl) (by kernel_rfl) (by kernel_rfl) (by kernel_rfl) (fun cf => (by kernel_rfl)) ?_
      refine WpFun.of (c1) ?_
      refine WpOps.keep 10 (Value.bool false) (by kernel_rfl) (by kernel_rfl) (by kernel_rfl) ?_ (fun cf => (by kernel_rfl))
      refine WpOps.nil ?_
      refine thenK_at ?_
      refine Wp.off (by kernel_rfl) ?_
      refine Wp.skip ?_
      refine thenK_at ?_
      refine Wp.seq ?_
      refine Wp.seq ?_
      refine Wp.text ?_
      refine WpOps.keep 12 (Value.iface 98 (Value.iface (List.length l) (Value.iface x (Value.agg (List.toArray (List.flatMap ec l)))))) (by kernel_rfl) (by kernel_rfl) (by kernel_rfl) ?_ (fun cf => (by kernel_rfl))
      refine WpOps.framed 13 84 [Value.iface 98 (Value.iface (List.length l) (Value.iface x (Value.agg (List.toArray (List.flatMap ec l)))))] (by kernel_rfl) (by kernel_rfl) (by kernel_rfl) (by kernel_rfl) (by kernel_rfl) (fun cf => (by kernel_rfl)) ?_
      refine WpFun.of (c2) ?_
      refine WpOps.keep 6 (Value.int IntKind.i64 (if true = true then 0 else 1)) (by kernel_rfl) (by kernel_rfl) (by kernel_rfl) ?_ (fun cf => (by kernel_rfl))
      refine WpOps.nil ?_
      refine thenK_at ?_
      refine Wp.seq ?_
      refine Wp.text ?_
      refine WpOps.keep 14 (Value.int IntKind.i64 (if true = true then 0 else 1)) (by kernel_rfl) (by kernel_rfl) (by kernel_rfl) ?_ (fun cf => (by kernel_rfl))
      refine WpOps.keep 15 (Value.bool false) (by kernel_rfl) (by kernel_rfl) (by kernel_rfl) ?_ (fun cf => (by kernel_rfl))
      refine WpOps.nil ?_
      refine thenK_at ?_
      refine Wp.off (by kernel_rfl) ?_
      refine Wp.skip ?_
      refine thenK_at ?_
      refine Wp.seq ?_
      refine Wp.text ?_
      refine WpOps.keep 18 (Value.iface 98 (Value.iface (List.length l) (Value.iface x (Value.agg (List.toArray (List.flatMap ec l)))))) (by kernel_rfl) (by kernel_rfl) (by kernel_rfl) ?_ (fun cf => (by kernel_rfl))
      refine WpOps.keep 19 (Value.iface 3 (Value.iface (List.length a) (Value.iface y (Value.agg (List.toArray (List.map (fun n => Value.int IntKind.i64 n) a)))))) (by kernel_rfl) (by kernel_rfl) (by kernel_rfl) ?_ (fun cf => (by kernel_rfl))
      refine WpOps.framed 20 85 [Value.iface 98 (Value.iface (List.length l) (Value.iface x (Value.agg (List.toArray (List.flatMap ec l))))), Value.iface 3 (Value.iface (List.length a) (Value.iface y (Value.agg (List.toArray (List.map (fun n => Value.int IntKind.i64 n) a))))), Value.int IntKind.i64 10] (by kernel_rfl) (by kernel_rfl) (by kernel_rfl) (by kernel_rfl) (by kernel_rfl) (fun cf => (by kernel_rfl)) ?_
      refine WpFun.of (c3) ?_
      refine WpOps.keep 7 (Value.int IntKind.i64 (bestAt l a (List.length l))) (by kernel_rfl) (by kernel_rfl) (by kernel_rfl) ?_ (fun cf => (by kernel_rfl))
      refine WpOps.nil ?_
      refine thenK_at ?_
      refine Wp.seq ?_
      refine Wp.seq ?_
      refine Wp.text ?_
      refine WpOps.keep 21 (Value.int IntKind.i64 (bestAt l a (List.length l))) (by kernel_rfl) (by kernel_rfl) (by kernel_rfl) ?_ (fun cf => (by kernel_rfl))
      refine WpOps.keep 22 (Value.bool true) (by kernel_rfl) (by kernel_rfl) (by kernel_rfl) ?_ (fun cf => by_fact z1 ((by kernel_rfl)))
      refine WpOps.nil ?_
      refine thenK_at ?_
      refine Wp.on (by kernel_rfl) ?_
      refine Wp.seq ?_
      refine Wp.text ?_
      refine WpOps.keep 23 (Value.agg #[Value.slice none 0 0, Value.int IntKind.i64 0]) (by kernel_rfl) (by kernel_rfl) (by kernel_rfl) ?_ (fun cf => (by kernel_rfl))
      refine WpOps.laid (Value.tuple #[]) (0) (Blk.mk 98 true [Value.slice none 0 0, Value.int IntKind.i64 0]) (by kernel_rfl) (by kernel_rfl) (by kernel_rfl) ?_ (fun cf => (by kernel_rfl))
      refine WpOps.keep 5 (Value.int IntKind.i64 3) (by kernel_rfl) (by kernel_rfl) (by kernel_rfl) ?_ (fun cf => (by kernel_rfl))
      refine WpOps.nil ?_
      refine thenK_at ?_
      refine Wp.ret ?_
      refine thenK_ret ?_
      refine endK_retn [Value.agg #[Value.slice none 0 0, Value.int IntKind.i64 0], Value.int IntKind.i64 3] (Value.tuple #[Value.agg #[Value.slice none 0 0, Value.int IntKind.i64 0], Value.int IntKind.i64 3]) (by kernel_rfl) (by kernel_rfl) ?_
      kernel_rfl
    · have z1 : decide (bestAt l a l.length < 0) = false := decide_eq_false hz
      rw [if_neg hz]
      obtain ⟨i, hi⟩ : ∃ i : Nat, bestAt l a l.length = i := ⟨(bestAt l a l.length).toNat, by omega⟩
      rw [hi] at c3 z1 hb ⊢
      have hi2 : i < l.length := by omega
      have hx0 : x = 0 := by
        rcases hx with h | ⟨_, h⟩
        · exact h
        · subst h; simp at hi2
      subst hx0
      have w1 : IntKind.i64.wrap ((i : Int) + 1) = ((i + 1 : Nat) : Int) := by rw [wr _ (by omega) (by omega)]; rfl
      have h1 : 0 ≤ IntKind.i64.wrap ((i : Int) + 1) ∧ IntKind.i64.wrap ((i : Int) + 1) ≤ l.length := by rw [w1]; omega
      have h2 : 0 ≤ (i : Int) ∧ (i : Int) ≤ ((IntKind.i64.wrap ((i : Int) + 1)).toNat : Int) := by rw [w1]; omega
      have og : OkEn (l.getD i zE) := by
        rw [List.getD_eq_getElem?_getD, List.getElem?_eq_getElem hi2]
        exact ok _ (List.getElem_mem hi2)
      have c4 := own86 (l.getD i zE) og
      rw [← ents_take l i 0 hi2, ← w1] at c4
      refine Wp.seq ?_
      refine Wp.text ?_
      refine WpOps.made 4 (Value.pointer (some (Addr.mk 0 0 none))) (Blk.mk 98 true [Value.slice none 0 0, Value.int IntKind.i64 0]) (by kernel_rfl) (by kernel_rfl) (by kernel_rfl) ?_ (fun cf => (by kernel_rfl))
      refine WpOps.keep 5 (Value.int IntKind.i64 0) (by kernel_rfl) (by kernel_rfl) (by kernel_rfl) ?_ (fun cf => (by kernel_rfl))
      refine WpOps.nil ?_
      refine thenK_at ?_
      refine Wp.seq ?_
      refine Wp.seq ?_
      refine Wp.text ?_
      refine WpOps.keep 8 (Value.iface 3 (Value.iface (List.length a) (Value.iface y (Value.agg (List.toArray (List.map (fun n => Value.int IntKind.i64 n) a)))))) (by kernel_rfl) (by kernel_rfl) (by kernel_rfl) ?_ (fun cf => (by kernel_rfl))
      refine WpOps.framed 9 49 [Value.iface 3 (Value.iface (List.length a) (Value.iface y (Value.agg (List.toArray (List.map (fun n => Value.int IntKind.i64 n) a)))))] (by kernel_rfl) (by kernel_rfl) (by kernel_rfl) (by kernel_rfl) (by kernel_rfl) (fun cf => (by kernel_rfl)) ?_
      refine WpFun.of (c1) ?_
      refine WpOps.keep 10 (Value.bool false) (by kernel_rfl) (by kernel_rfl) (by kernel_rfl) ?_ (fun cf => (by kernel_rfl))
      refine WpOps.nil ?_
      refine thenK_at ?_
      refine Wp.off (by kernel_rfl) ?_
      refine Wp.skip ?_
      refine thenK_at ?_
      refine Wp.seq ?_
      refine Wp.seq ?_
      refine Wp.text ?_
      refine WpOps.keep 12 (Value.iface 98 (Value.iface (List.length l) (Value.iface 0 (Value.agg (List.toArray (List.flatMap ec l)))))) (by kernel_rfl) (by kernel_rfl) (by kernel_rfl) ?_ (fun cf => (by kernel_rfl))
      refine WpOps.framed 13 84 [Value.iface 98 (Value.iface (List.length l) (Value.iface 0 (Value.agg (List.toArray (List.flatMap ec l)))))] (by kernel_rfl) (by kernel_rfl) (by kernel_rfl) (by kernel_rfl) (by kernel_rfl) (fun cf => (by kernel_rfl)) ?_
      refine WpFun.of (c2) ?_
      refine WpOps.keep 6 (Value.int IntKind.i64 (if true = true then 0 else 1)) (by kernel_rfl) (by kernel_rfl) (by kernel_rfl) ?_ (fun cf => (by kernel_rfl))
      refine WpOps.nil ?_
      refine thenK_at ?_
      refine Wp.seq ?_
      refine Wp.text ?_
      refine WpOps.keep 14 (Value.int IntKind.i64 (if true = true then 0 else 1)) (by kernel_rfl) (by kernel_rfl) (by kernel_rfl) ?_ (fun cf => (by kernel_rfl))
      refine WpOps.keep 15 (Value.bool false) (by kernel_rfl) (by kernel_rfl) (by kernel_rfl) ?_ (fun cf => (by kernel_rfl))
      refine WpOps.nil ?_
      refine thenK_at ?_
      refine Wp.off (by kernel_rfl) ?_
      refine Wp.skip ?_
      refine thenK_at ?_
      refine Wp.seq ?_
      refine Wp.text ?_
      refine WpOps.keep 18 (Value.iface 98 (Value.iface (List.length l) (Value.iface 0 (Value.agg (List.toArray (List.flatMap ec l)))))) (by kernel_rfl) (by kernel_rfl) (by kernel_rfl) ?_ (fun cf => (by kernel_rfl))
      refine WpOps.keep 19 (Value.iface 3 (Value.iface (List.length a) (Value.iface y (Value.agg (List.toArray (List.map (fun n => Value.int IntKind.i64 n) a)))))) (by kernel_rfl) (by kernel_rfl) (by kernel_rfl) ?_ (fun cf => (by kernel_rfl))
      refine WpOps.framed 20 85 [Value.iface 98 (Value.iface (List.length l) (Value.iface 0 (Value.agg (List.toArray (List.flatMap ec l))))), Value.iface 3 (Value.iface (List.length a) (Value.iface y (Value.agg (List.toArray (List.map (fun n => Value.int IntKind.i64 n) a))))), Value.int IntKind.i64 10] (by kernel_rfl) (by kernel_rfl) (by kernel_rfl) (by kernel_rfl) (by kernel_rfl) (fun cf => (by kernel_rfl)) ?_
      refine WpFun.of (c3) ?_
      refine WpOps.keep 7 (Value.int IntKind.i64 (↑i : Int)) (by kernel_rfl) (by kernel_rfl) (by kernel_rfl) ?_ (fun cf => (by kernel_rfl))
      refine WpOps.nil ?_
      refine thenK_at ?_
      refine Wp.seq ?_
      refine Wp.seq ?_
      refine Wp.text ?_
      refine WpOps.keep 21 (Value.int IntKind.i64 (↑i : Int)) (by kernel_rfl) (by kernel_rfl) (by kernel_rfl) ?_ (fun cf => (by kernel_rfl))
      refine WpOps.keep 22 (Value.bool (decide ((↑i : Int) < 0))) (by kernel_rfl) (by kernel_rfl) (by kernel_rfl) ?_ (fun cf => (by kernel_rfl))
      refine WpOps.nil ?_
      refine thenK_at ?_
      refine Wp.off (by kernel_rfl) ?_
      refine Wp.skip ?_
      refine thenK_at ?_
      refine Wp.seq ?_
      refine Wp.text ?_
      refine WpOps.keep 24 (Value.iface 98 (Value.iface (List.length l) (Value.iface 0 (Value.agg (List.toArray (List.flatMap ec l)))))) (by kernel_rfl) (by kernel_rfl) (by kernel_rfl) ?_ (fun cf => (by kernel_rfl))
      refine WpOps.keep 25 (Value.int IntKind.i64 (↑i : Int)) (by kernel_rfl) (by kernel_rfl) (by kernel_rfl) ?_ (fun cf => (by kernel_rfl))
      refine WpOps.keep 26 (Value.int IntKind.i64 (↑i : Int)) (by kernel_rfl) (by kernel_rfl) (by kernel_rfl) ?_ (fun cf => (by kernel_rfl))
      refine WpOps.keep 27 (Value.int IntKind.i64 (IntKind.wrap IntKind.i64 ((↑i : Int) + 1))) (by kernel_rfl) (by kernel_rfl) (by kernel_rfl) ?_ (fun cf => (by kernel_rfl))
      refine WpOps.keep 28 (Value.iface 98 (Value.iface (Int.toNat (IntKind.wrap IntKind.i64 ((↑i : Int) + 1)) - Int.toNat (↑i : Int)) (Value.iface (if 0 = 2 then 2 else 0) (Value.agg (List.toArray (List.take ((Int.toNat (IntKind.wrap IntKind.i64 ((↑i : Int) + 1)) - Int.toNat (↑i : Int)) * 2) (List.drop (Int.toNat (↑i : Int) * 2) (Array.toList (List.toArray (List.flatMap ec l)))))))))) (by kernel_rfl) (by kernel_rfl) (by kernel_rfl) ?_ (fun cf => o_cutF_LH (size := 2) h1 h2 (by kernel_rfl) (by kernel_rfl) (by kernel_rfl) (by kernel_rfl) (by kernel_rfl))
      refine WpOps.framed 29 86 [Value.iface 98 (Value.iface (Int.toNat (IntKind.wrap IntKind.i64 ((↑i : Int) + 1)) - Int.toNat (↑i : Int)) (Value.iface (if 0 = 2 then 2 else 0) (Value.agg (List.toArray (List.take ((Int.toNat (IntKind.wrap IntKind.i64 ((↑i : Int) + 1)) - Int.toNat (↑i : Int)) * 2) (List.drop (Int.toNat (↑i : Int) * 2) (Array.toList (List.toArray (List.flatMap ec l)))))))))] (by kernel_rfl) (by kernel_rfl) (by kernel_rfl) (by kernel_rfl) (by kernel_rfl) (fun cf => (by kernel_rfl)) ?_
      refine WpFun.of (c4) ?_
      refine WpOps.keep 30 (Value.iface 98 (Value.iface 0 (Value.agg (List.toArray (List.flatMap ec [En.mk (nx (En.x (List.getD l i zE))) (En.p (List.getD l i zE)) (En.to (List.getD l i zE))]))))) (by kernel_rfl) (by kernel_rfl) (by kernel_rfl) ?_ (fun cf => (by kernel_rfl))
      refine WpOps.keep 31 (Value.agg #[Value.iface 3 (Value.iface (List.length (En.p (En.mk (nx (En.x (List.getD l i zE))) (En.p (List.getD l i zE)) (En.to (List.getD l i zE))))) (Value.iface (En.x (En.mk (nx (En.x (List.getD l i zE))) (En.p (List.getD l i zE)) (En.to (List.getD l i zE)))) (Value.agg (List.toArray (List.map (fun n => Value.int IntKind.i64 n) (En.p (En.mk (nx (En.x (List.getD l i zE))) (En.p (List.getD l i zE)) (En.to (List.getD l i zE))))))))), Value.int IntKind.i64 (En.to (En.mk (nx (En.x (List.getD l i zE))) (En.p (List.getD l i zE)) (En.to (List.getD l i zE))))]) (by kernel_rfl) (by kernel_rfl) (by kernel_rfl) ?_ (fun cf => (by kernel_rfl))
      refine WpOps.laid (Value.tuple #[]) (0) (Blk.mk 98 true [Value.iface 3 (Value.iface (List.length (En.p (En.mk (nx (En.x (List.getD l i zE))) (En.p (List.getD l i zE)) (En.to (List.getD l i zE))))) (Value.iface (En.x (En.mk (nx (En.x (List.getD l i zE))) (En.p (List.getD l i zE)) (En.to (List.getD l i zE)))) (Value.agg (List.toArray (List.map (fun n => Value.int IntKind.i64 n) (En.p (En.mk (nx (En.x (List.getD l i zE))) (En.p (List.getD l i zE)) (En.to (List.getD l i zE))))))))), Value.int IntKind.i64 (En.to (En.mk (nx (En.x (List.getD l i zE))) (En.p (List.getD l i zE)) (En.to (List.getD l i zE))))]) (by kernel_rfl) (by kernel_rfl) (by kernel_rfl) ?_ (fun cf => (by kernel_rfl))
      refine WpOps.keep 5 (Value.int IntKind.i64 0) (by kernel_rfl) (by kernel_rfl) (by kernel_rfl) ?_ (fun cf => (by kernel_rfl))
      refine WpOps.nil ?_
      refine thenK_at ?_
      refine Wp.ret ?_
      refine endK_retn [Value.agg #[Value.iface 3 (Value.iface (List.length (En.p (En.mk (nx (En.x (List.getD l i zE))) (En.p (List.getD l i zE)) (En.to (List.getD l i zE))))) (Value.iface (En.x (En.mk (nx (En.x (List.getD l i zE))) (En.p (List.getD l i zE)) (En.to (List.getD l i zE)))) (Value.agg (List.toArray (List.map (fun n => Value.int IntKind.i64 n) (En.p (En.mk (nx (En.x (List.getD l i zE))) (En.p (List.getD l i zE)) (En.to (List.getD l i zE))))))))), Value.int IntKind.i64 (En.to (En.mk (nx (En.x (List.getD l i zE))) (En.p (List.getD l i zE)) (En.to (List.getD l i zE))))], Value.int IntKind.i64 0] (Value.tuple #[Value.agg #[Value.iface 3 (Value.iface (List.length (En.p (En.mk (nx (En.x (List.getD l i zE))) (En.p (List.getD l i zE)) (En.to (List.getD l i zE))))) (Value.iface (En.x (En.mk (nx (En.x (List.getD l i zE))) (En.p (List.getD l i zE)) (En.to (List.getD l i zE)))) (Value.agg (List.toArray (List.map (fun n => Value.int IntKind.i64 n) (En.p (En.mk (nx (En.x (List.getD l i zE))) (En.p (List.getD l i zE)) (En.to (List.getD l i zE))))))))), Value.int IntKind.i64 (En.to (En.mk (nx (En.x (List.getD l i zE))) (En.p (List.getD l i zE)) (En.to (List.getD l i zE))))], Value.int IntKind.i64 0]) (by kernel_rfl) (by kernel_rfl) ?_
      kernel_rfl
end Go.Proofs.Ytpkkcpglbjbgfaa.D
