/- Calm of both. -/
import Derived.Test.YtdkmdpklojeepaaFwLem
import Derived.Test.YtdkmdpklojeepaaF09i
namespace Go.Proofs.Ytdkmdpklojeepaa.D
open Go.Fw Go.RowKit

theorem fc_at (mild : Bool) : ∀ (L : List Int) (i r : Nat), i < L.length → r < 4 → (fc mild L)[i * 4 + r]? = (ofC mild (L.getD i 0))[r]?
  | [], i, r, h, _ => absurd h (Nat.not_lt_zero _)
  | a :: L, 0, r, _, hr => by
    unfold fc
    rw [List.flatMap_cons, Nat.zero_mul, Nat.zero_add, List.getElem?_append_left (by rw [ofC_len]; exact hr)]
    rfl
  | a :: L, i + 1, r, h, hr => by
    have ih := fc_at mild L i r (by simpa using h) hr
    unfold fc at ih ⊢
    rw [List.flatMap_cons, List.getElem?_append_right (by rw [ofC_len]; omega), ofC_len, show (i + 1) * 4 + r - 4 = i * 4 + r by omega, ih]
    simp
def loseF (mild : Bool) (x : Int) : Bool := match (ofC mild x)[0]? with | some (Value.bool b) => b | _ => false
def spF (mild : Bool) (x : Int) : Int := match (ofC mild x)[3]? with | some (Value.int _ n) => n | _ => 0
theorem lose_at (mild : Bool) (x : Int) : (ofC mild x)[0]? = some (.bool (loseF mild x)) := by
  obtain ⟨b, c, d, e, h⟩ := ofC_is mild x
  unfold loseF
  rw [h]
  rfl
theorem sp_at (mild : Bool) (x : Int) : (ofC mild x)[3]? = some (.int .i64 (spF mild x)) := by
  obtain ⟨b, c, d, e, h⟩ := ofC_is mild x
  unfold spF
  rw [h]
  rfl
def calmB (mild : Bool) (x : Int) : Bool := !loseF mild x && (spF mild x == -1)
theorem f22 : E.funcs 22 = some Try.f22 := by kernel_rfl
theorem calm22 (mild : Bool) (L : List Int) (h0 : ¬ L.length = 0) (hz : L.length ≤ 1000) : Fun E 22 [FS 36 L.length 0 (fc mild L).toArray] (.bool (L.all (calmB mild))) := by
  refine Fun.of f22 rfl (of_decide_eq_true (by kernel_rfl)) rfl ?_
  refine Wp.seq (Wp.text ?_)
  refine kp 2 (.bool false) ?_
  refine WpOps.nil (thenK_at (Wp.seq (Wp.seq (Wp.text ?_))))
  refine kp 3 (.int IntKind.i64 0) ?_
  refine WpOps.nil (thenK_at (Wp.block ?_))
  refine Wp.loop (G := Nat) (fun k => layj [(0, FS 36 L.length 0 (fc mild L).toArray), (3, .int .i64 k)]) (fun _ => heapOf []) (fun k => L.length - k) (fun k => k ≤ L.length ∧ (L.take k).all (calmB mild) = true) 0
    (View.of [] [] _ (by decide) rfl trivial ⟨⟨by kernel_rfl, rfl⟩, ⟨by kernel_rfl, rfl⟩, trivial⟩) ⟨Nat.zero_le _, rfl⟩ ?_
  rintro k ⟨hk, hp⟩
  refine Wp.seq (Wp.seq (Wp.text ?_))
  refine kp 4 (.int IntKind.i64 (↑k : Int)) ?_
  refine kp 5 (.iface 36 (Value.iface (List.length L) (Value.iface 0 (Value.agg (List.toArray (fc mild L)))))) ?_
  refine kp 6 (.int IntKind.i64 (↑(List.length L) : Int)) ?_
  refine kp 7 (.bool (decide ((↑k : Int) < (↑(List.length L) : Int)))) ?_
  refine WpOps.nil (thenK_at ?_)
  refine Wp.split (decide ((↑k : Int) < (↑(List.length L) : Int))) (by kernel_rfl) (fun hd => ?_) (fun hd => ?_)
  · have hlt : (k : Int) < L.length := of_decide_eq_true hd
    have g1 : 0 ≤ (k : Int) ∧ (k : Int) < L.length := by omega
    have v1 : (fc mild L).toArray.toList[(k : Int).toNat * 4 + 0]? = some (.bool (loseF mild (L.getD k 0))) := by
      rw [Int.toNat_natCast, List.toList_toArray, fc_at mild L k 0 (by omega) (by decide)]
      exact lose_at mild _
    have v2 : (fc mild L).toArray.toList[(k : Int).toNat * 4 + 3]? = some (.int .i64 (spF mild (L.getD k 0))) := by
      rw [Int.toNat_natCast, List.toList_toArray, fc_at mild L k 3 (by omega) (by decide)]
      exact sp_at mild _
    have hget : L[k]? = some (L.getD k 0) := by rw [List.getD_eq_getElem?_getD, List.getElem?_eq_getElem (by omega)]; rfl
    refine Wp.skip (thenK_at (Wp.seq (Wp.block (Wp.seq (Wp.text ?_)))))
    refine kp 10 (.iface 36 (Value.iface (List.length L) (Value.iface 0 (Value.agg (List.toArray (fc mild L)))))) ?_
    refine kp 11 (.int IntKind.i64 (↑k : Int)) ?_
    refine kp 12 (.iface 36 (Value.iface (Int.toNat (↑k : Int) * 4) (Value.agg (List.toArray (fc mild L))))) ?_ (hop := fun _ => o_indexI (e := 36) (size := 4) (a := (↑k : Int)) g1)
    refine kp 13 (.iface 36 (Value.iface (Int.toNat (↑k : Int) * 4 + 0) (Value.agg (List.toArray (fc mild L))))) ?_
    refine kp 14 (.bool (loseF mild (List.getD L k 0))) ?_ (hop := fun _ => o_loadI1 (Int.toNat (↑k : Int) * 4 + 0) v1)
    refine kp 15 (.bool (loseF mild (List.getD L k 0))) ?_
    refine WpOps.fork 7 (loseF mild (List.getD L k 0)) [16, 17, 18, 19, 20, 21, 22] 22 (true) (spF mild (List.getD L k 0) != -1) (by kernel_rfl) (fun g22 => ?_) (fun g22 => ?_) (fun f_22 b22 hb22 => ?_)
    · refine um 16 ?_ (hw := wants_tf g22)
      refine um 17 ?_ (hw := wants_tf g22)
      refine um 18 ?_ (hw := wants_tf g22)
      refine um 19 ?_ (hw := wants_tf g22)
      refine um 20 ?_ (hw := wants_tf g22)
      refine um 21 ?_ (hw := wants_tf g22)
      refine kp 22 (.bool true) ?_ (hop := fun _ => o_pickT g22)
      refine WpOps.nil ?_
      exact ⟨rfl, (.upd rfl (.upd rfl (.upd rfl (.upd rfl (.upd rfl (.upd rfl (.upd rfl .refl))))))), (by kernel_rfl)⟩
    · refine kp 16 (.iface 36 (Value.iface (List.length L) (Value.iface 0 (Value.agg (List.toArray (fc mild L)))))) ?_ (hw := wants_ff g22)
      refine kp 17 (.int IntKind.i64 (↑k : Int)) ?_ (hw := wants_ff g22)
      refine kp 18 (.iface 36 (Value.iface (Int.toNat (↑k : Int) * 4) (Value.agg (List.toArray (fc mild L))))) ?_ (hw := wants_ff g22) (hop := fun _ => o_indexI (e := 36) (size := 4) (a := (↑k : Int)) g1)
      refine kp 19 (.iface 36 (Value.iface (Int.toNat (↑k : Int) * 4 + 3) (Value.agg (List.toArray (fc mild L))))) ?_ (hw := wants_ff g22)
      refine kp 20 (.int IntKind.i64 (spF mild (List.getD L k 0))) ?_ (hw := wants_ff g22) (hop := fun _ => o_loadI1 (Int.toNat (↑k : Int) * 4 + 3) v2)
      refine kp 21 (.bool (spF mild (List.getD L k 0) != -1)) ?_ (hw := wants_ff g22)
      refine kp 22 (.bool (spF mild (List.getD L k 0) != -1)) ?_ (hop := fun _ => o_pickF g22)
      refine WpOps.nil ?_
      exact ⟨rfl, (.upd rfl (.upd rfl (.upd rfl (.upd rfl (.upd rfl (.upd rfl (.upd rfl .refl))))))), (by kernel_rfl)⟩
    refine WpOps.nil (thenK_at ?_)
    have hcb : calmB mild (L.getD k 0) = !b22 := by
      rw [hb22]
      unfold calmB
      generalize spF mild (L.getD k 0) = sp
      show (!_ && (sp == -1)) = !(bif _ then true else !(sp == -1))
      generalize (sp == -1) = q
      generalize loseF mild (L.getD k 0) = b
      cases b <;> cases q <;> rfl
    clear hb22
    refine Wp.split (b22) (by kernel_rfl) (fun hx => ?_) (fun hx => ?_)
    · have hall : L.all (calmB mild) = false := by
        rw [List.all_eq_false]
        refine ⟨L.getD k 0, List.mem_of_getElem? hget, ?_⟩
        rw [hcb, hx]
        decide
      rw [hall]
      refine Wp.seq (Wp.text ?_)
      refine kp 2 (.bool false) ?_
      refine WpOps.nil (thenK_at (Wp.ret (blockK_ret (thenK_ret (thenK_ret (blockK_ret (thenK_ret ?_)))))))
      refine endK_retn [Value.bool false] (Value.bool false) (by kernel_rfl) (by kernel_rfl) ?_
      rfl
    · refine Wp.skip (blockK_norm (thenK_at (Wp.text ?_)))
      refine kp 8 (.int IntKind.i64 (↑k : Int)) ?_
      refine kp 9 (.int IntKind.i64 (IntKind.wrap .i64 ((↑k : Int) + 1))) ?_
      refine kp 3 (.int IntKind.i64 (IntKind.wrap .i64 ((↑k : Int) + 1))) ?_
      refine WpOps.nil (thenK_at ?_)
      refine ⟨k + 1, by omega, ⟨by omega, ?_⟩, View.of [] [] _ (by decide) rfl trivial ⟨⟨by kernel_rfl, rfl⟩, ⟨congrArg (Value.int .i64) (wr _ (by omega) (by omega)), rfl⟩, trivial⟩⟩
      rw [List.take_add_one, hget, List.all_append, hp]
      show (true && ([L.getD k 0]).all (calmB mild)) = true
      simp only [List.all_cons, List.all_nil, hcb, hx]
      rfl
  · have hle : ¬ ((k : Int) < L.length) := of_decide_eq_false hd
    obtain rfl : k = L.length := by omega
    rw [List.take_length] at hp
    rw [hp]
    refine Wp.exit (thenK_exit (thenK_exit (blockK_hit (thenK_at (Wp.seq (Wp.text ?_))))))
    refine kp 2 (.bool true) ?_
    refine WpOps.nil (thenK_at (Wp.ret ?_))
    refine endK_retn [Value.bool true] (Value.bool true) (by kernel_rfl) (by kernel_rfl) ?_
    rfl
end Go.Proofs.Ytdkmdpklojeepaa.D
