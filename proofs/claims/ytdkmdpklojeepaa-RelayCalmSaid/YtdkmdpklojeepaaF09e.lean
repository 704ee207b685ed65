/- The document's scripts. -/
import Derived.Test.YtdkmdpklojeepaaFwLem
import Derived.Test.YtdkmdpklojeepaaF09d
namespace Go.Proofs.Ytdkmdpklojeepaa.D
open Go.Fw Go.RowKit

def sl (x : Nat) (l : List Int) : Value := FS 3 l.length x (l.map fun n => Value.int .i64 n).toArray
theorem sl_at (l : List Int) (i : Nat) (hi : i < l.length) : (l.map fun n => Value.int .i64 n)[((i : Int)).toNat * 1]? = some (.int .i64 (l.getD i 0)) := by
  rw [Int.toNat_natCast, Nat.mul_one]
  simp [List.getElem?_map, List.getElem?_eq_getElem hi]
def I64 (n : Int) : Prop := -9223372036854775808 ≤ n ∧ n ≤ 9223372036854775807
def fc (mild : Bool) (L : List Int) : List Value := L.flatMap (ofC mild)
theorem ofC_len (mild : Bool) (x : Int) : (ofC mild x).length = 4 := by
  unfold ofC
  repeat' (first | rfl | split)
theorem fc_len (mild : Bool) : ∀ L, (fc mild L).length = L.length * 4
  | [] => rfl
  | a :: L => by
    have ih := fc_len mild L
    unfold fc at ih ⊢
    rw [List.flatMap_cons, List.length_append, ofC_len, ih, List.length_cons]
    omega
theorem fc_flat (mild : Bool) : ∀ L, (fc mild L).all flat = true
  | [] => rfl
  | a :: L => by
    have ih := fc_flat mild L
    unfold fc at ih ⊢
    rw [List.flatMap_cons, List.all_append, ofC_flat, ih]
    rfl
theorem fc_snoc (mild : Bool) (l : List Int) (k : Nat) (h : k < l.length) : fc mild (l.take k) ++ ofC mild (l.getD k 0) = fc mild (l.take (k + 1)) := by
  unfold fc
  rw [List.take_add_one, List.flatMap_append, List.getD_eq_getElem?_getD, List.getElem?_eq_getElem h]
  simp
theorem ofC_is (mild : Bool) (x : Int) : ∃ b c d e, ofC mild x = [.bool b, .int .i64 c, .int .i64 d, .int .i64 e] := by
  unfold ofC
  repeat' (first | exact ⟨_, _, _, _, rfl⟩ | split)
def outF (t : TypeId) (n : Nat) (cs : List Value) : Value := if n = 0 then FS t 0 2 #[] else FS t n 0 cs.toArray
def oV (b k : Nat) : Value := if k = 0 then .slice none 0 0 else .slice (some ⟨b, 0, none⟩) k k
def oB (t : TypeId) (k : Nat) (cs : List Value) : List Blk := if k = 0 then [] else [⟨t, true, cs⟩]
theorem oV_nil (b : Nat) : oV b 0 = .slice none 0 0 := rfl
theorem oV_own {b k : Nat} (h : ¬ k = 0) : oV b k = .slice (some ⟨b, 0, none⟩) k k := if_neg h
theorem oB_nil (t : TypeId) (cs : List Value) : oB t 0 cs = [] := rfl
theorem oB_own {t : TypeId} {k : Nat} {cs : List Value} (h : ¬ k = 0) : oB t k cs = [⟨t, true, cs⟩] := if_neg h
theorem types36 : ∃ ti, E.types 36 = some ti := by
  have : (E.types 36).map TI.size = some 4 := by kernel_rfl
  obtain ⟨ti, h, _⟩ := Option.map_eq_some_iff.1 this
  exact ⟨ti, h⟩
theorem ice_row {hp : Heap} {b n c : Nat} (t : TypeId) (cs : List Value) (h0 : (E.types t).map TI.size = some 4) (hf : cs.all flat = true) (hn : n * 4 = cs.length) (h1 : hp.get b = some ⟨t, true, cs⟩) : iceV E hp (.slice (some ⟨b, 0, none⟩) n c) = some (FS t n 0 cs.toArray) := by
  have h := iceC_row (E := E) (hp := hp) (b := b) (n := n) (c := c) (e := t) (size := 4) (cells := cs) 3 h0 h1 hn hf
  exact h
theorem f39 : E.funcs 39 = some Try.f39 := by kernel_rfl
theorem script39 (mild : Bool) (x : Nat) (l : List Int) (hl : ∀ n ∈ l, I64 n) (hz : l.length ≤ 1000) : Fun E 39 [sl x l, .bool mild] (outF 36 (min l.length 200) (fc mild (l.take 200))) := by
  refine Fun.ofN f39 rfl (of_decide_eq_true (by kernel_rfl)) (by unfold outF; split <;> rfl) ?_
  unfold sl
  refine Wp.seq (Wp.text ?_)
  refine kp 4 (.slice none 0 0) ?_
  refine WpOps.nil (thenK_at (Wp.seq (Wp.text ?_)))
  refine kp 5 (.slice none 0 0) ?_
  refine WpOps.nil (thenK_at (Wp.seq (Wp.seq (Wp.text ?_))))
  refine kp 6 (.int IntKind.i64 0) ?_
  refine WpOps.nil (thenK_at (Wp.block ?_))
  refine Wp.loop (G := Nat) (fun k => layj [(0, sl x l), (1, .bool mild), (5, oV 0 k), (6, .int .i64 k)]) (fun k => heapOf (oB 36 k (fc mild (l.take k)))) (fun k => min l.length 200 - k) (fun k => k ≤ min l.length 200) 0
    (View.of [] [] _ (by decide) rfl trivial ⟨⟨by kernel_rfl, rfl⟩, ⟨by kernel_rfl, rfl⟩, ⟨by kernel_rfl, rfl⟩, ⟨by kernel_rfl, rfl⟩, trivial⟩) (Nat.zero_le _) ?_
  intro k hk
  unfold sl
  by_cases hlt : k < min l.length 200
  · have d1 : decide ((k : Int) < l.length) = true := decide_eq_true (by omega)
    have d2 : decide ((k : Int) < 200) = true := decide_eq_true (by omega)
    have g1 : 0 ≤ (k : Int) ∧ (k : Int) < l.length := by omega
    have v1 := sl_at l k (by omega)
    have hr : I64 (l.getD k 0) := by
      rw [List.getD_eq_getElem?_getD, List.getElem?_eq_getElem (by omega)]
      exact hl _ (List.getElem_mem _)
    have c1 := of59 mild (l.getD k 0) hr
    have hsn := fc_snoc mild l k (by omega)
    obtain ⟨q1, q2, q3, q4, hq⟩ := ofC_is mild (l.getD k 0)
    rw [hq] at c1 hsn
    by_cases h0 : k = 0
    · subst h0
      rw [oV_nil, oB_nil]
      refine Wp.seq (Wp.seq (Wp.text ?_))
      refine kp 7 (.int IntKind.i64 (↑0 : Int)) ?_
      refine kp 8 (.iface 3 (Value.iface (List.length l) (Value.iface x (Value.agg (List.toArray (List.map (fun n => Value.int .i64 n) l)))))) ?_
      refine kp 9 (.int IntKind.i64 (↑(List.length l) : Int)) ?_
      refine kp 10 (.bool true) ?_ (hop := fun _ => by_fact d1)
      refine kp 11 (.bool true) ?_
      refine kp 12 (.int IntKind.i64 (↑0 : Int)) ?_
      refine kp 13 (.bool true) ?_
      refine kp 14 (.bool true) ?_
      refine WpOps.nil (thenK_at (on' (Wp.skip (thenK_at (Wp.seq (Wp.block (Wp.text ?_)))))))
      refine kp 17 (.slice none 0 0) ?_
      refine kp 18 (.iface 3 (Value.iface (List.length l) (Value.iface x (Value.agg (List.toArray (List.map (fun n => Value.int .i64 n) l)))))) ?_
      refine kp 19 (.int IntKind.i64 (↑0 : Int)) ?_
      refine kp 20 (.iface 3 (Value.iface 0 (Value.agg (List.toArray (List.map (fun n => Value.int .i64 n) l))))) ?_ (hop := fun _ => o_indexI (e := 3) (size := 1) (a := (↑0 : Int)) g1)
      refine kp 21 (.int IntKind.i64 (List.getD l 0 0)) ?_ (hop := fun _ => o_loadI1 (0) v1)
      refine kp 22 (.bool mild) ?_
      refine fr 23 59 [Value.int .i64 (List.getD l 0 0), Value.bool mild] ?_
      refine WpFun.of (c1) ?_
      refine md 24 (.slice (some ⟨0, 0, none⟩) 1 1) (Blk.mk 36 true [Value.bool q1, Value.int .i64 q2, Value.int .i64 q3, Value.int .i64 q4]) ?_
      refine md 25 (.slice (some ⟨1, 0, none⟩) 1 1) (Blk.mk 36 true [Value.bool q1, Value.int .i64 q2, Value.int .i64 q3, Value.int .i64 q4]) ?_
      refine kp 5 (.slice (some ⟨1, 0, none⟩) 1 1) ?_
      refine WpOps.nil (blockK_norm (thenK_at (Wp.text ?_)))
      refine kp 15 (.int IntKind.i64 (↑0 : Int)) ?_
      refine kp 16 (.int IntKind.i64 (IntKind.wrap .i64 ((↑0 : Int) + 1))) ?_
      refine kp 6 (.int IntKind.i64 (IntKind.wrap .i64 ((↑0 : Int) + 1))) ?_
      refine WpOps.nil (thenK_at ?_)
      refine ⟨0 + 1, by omega, by omega, ?_⟩
      try dsimp only
      rw [oV_own (by omega), oB_own (by omega)]
      have e3 : [Value.bool q1, .int .i64 q2, .int .i64 q3, .int .i64 q4] = fc mild (l.take (0 + 1)) := hsn
      exact View.of [1] [⟨36, true, fc mild (l.take (0 + 1))⟩] _ (by decide) rfl ⟨⟨_, by kernel_rfl, CellsOk.eq e3 (fc_flat _ _)⟩, trivial⟩ ⟨⟨by kernel_rfl, rfl⟩, ⟨by kernel_rfl, rfl⟩, ⟨by kernel_rfl, rfl⟩, ⟨by kernel_rfl, rfl⟩, trivial⟩
    · rw [oV_own h0, oB_own h0]
      have b1 : ¬ (k + 1 ≤ k) := by omega
      have b2 : 1 ≤ 32 ∧ (k + 1) * 32 ≤ 140737488355328 ∧ 4 = 4 ∧ k + 1 ≤ 9223372036854775807 := by omega
      have b3 := cells_whole (fc mild (l.take k)) (k * 4) (by rw [fc_len, List.length_take]; omega)
      refine Wp.seq (Wp.seq (Wp.text ?_))
      refine kp 7 (.int IntKind.i64 (↑k : Int)) ?_
      refine kp 8 (.iface 3 (Value.iface (List.length l) (Value.iface x (Value.agg (List.toArray (List.map (fun n => Value.int .i64 n) l)))))) ?_
      refine kp 9 (.int IntKind.i64 (↑(List.length l) : Int)) ?_
      refine kp 10 (.bool true) ?_ (hop := fun _ => by_fact d1)
      refine kp 11 (.bool true) ?_
      refine kp 12 (.int IntKind.i64 (↑k : Int)) ?_
      refine kp 13 (.bool true) ?_ (hop := fun _ => by_fact d2)
      refine kp 14 (.bool true) ?_
      refine WpOps.nil (thenK_at (on' (Wp.skip (thenK_at (Wp.seq (Wp.block (Wp.text ?_)))))))
      refine kp 17 (.slice (some ⟨0, 0, none⟩) k k) ?_
      refine kp 18 (.iface 3 (Value.iface (List.length l) (Value.iface x (Value.agg (List.toArray (List.map (fun n => Value.int .i64 n) l)))))) ?_
      refine kp 19 (.int IntKind.i64 (↑k : Int)) ?_
      refine kp 20 (.iface 3 (Value.iface (Int.toNat (↑k : Int) * 1) (Value.agg (List.toArray (List.map (fun n => Value.int .i64 n) l))))) ?_ (hop := fun _ => o_indexI (e := 3) (size := 1) (a := (↑k : Int)) g1)
      refine kp 21 (.int IntKind.i64 (List.getD l k 0)) ?_ (hop := fun _ => o_loadI1 (Int.toNat (↑k : Int) * 1) v1)
      refine kp 22 (.bool mild) ?_
      refine fr 23 59 [Value.int .i64 (List.getD l k 0), Value.bool mild] ?_
      refine WpFun.of (c1) ?_
      refine md 24 (.slice (some ⟨1, 0, none⟩) 1 1) (Blk.mk 36 true [Value.bool q1, Value.int .i64 q2, Value.int .i64 q3, Value.int .i64 q4]) ?_
      refine ra 25 (.slice (some ⟨2, 0, none⟩) (k + 1) (k + 1)) (0) (Blk.mk 36 true (fc mild (List.take k l) ++ [Value.bool q1, Value.int .i64 q2, Value.int .i64 q3, Value.int .i64 q4])) ?_ (hop := fun _ => o_append (e := 36) 0 (0) (k) _ (k) b1 b2 b3)
      refine kp 5 (.slice (some ⟨2, 0, none⟩) (k + 1) (k + 1)) ?_
      refine WpOps.nil (blockK_norm (thenK_at (Wp.text ?_)))
      refine kp 15 (.int IntKind.i64 (↑k : Int)) ?_
      refine kp 16 (.int IntKind.i64 (IntKind.wrap .i64 ((↑k : Int) + 1))) ?_
      refine kp 6 (.int IntKind.i64 (IntKind.wrap .i64 ((↑k : Int) + 1))) ?_
      refine WpOps.nil (thenK_at ?_)
      refine ⟨k + 1, by omega, by omega, ?_⟩
      try dsimp only
      rw [oV_own (by omega), oB_own (by omega)]
      exact View.of [2] [⟨36, true, fc mild (l.take (k + 1))⟩] _ (by decide) rfl ⟨⟨_, by kernel_rfl, CellsOk.eq hsn (fc_flat _ _)⟩, trivial⟩ ⟨⟨by kernel_rfl, rfl⟩, ⟨by kernel_rfl, rfl⟩, ⟨by kernel_rfl, rfl⟩, ⟨congrArg (Value.int .i64) (wr _ (by omega) (by omega)), rfl⟩, trivial⟩
  · obtain rfl : k = min l.length 200 := by omega
    have hend : l.take (min l.length 200) = l.take 200 := by
      rcases Nat.le_total l.length 200 with h | h
      · rw [Nat.min_eq_left h, List.take_length, List.take_of_length_le h]
      · rw [Nat.min_eq_right h]
    rw [hend]
    obtain ⟨m, hm⟩ : ∃ m, m = min l.length 200 := ⟨_, rfl⟩
    have d3 : (bif decide ((m : Int) < l.length) then decide ((m : Int) < 200) else false) = false := by
      rcases Nat.le_total l.length 200 with h | h
      · rw [decide_eq_false (show ¬ ((m : Int) < l.length) by omega)]; rfl
      · rw [decide_eq_false (show ¬ ((m : Int) < 200) by omega), Bool.cond_false_right, Bool.and_false]
    have hlen : m * 4 = (fc mild (l.take 200)).length := by rw [fc_len, List.length_take]; omega
    rw [← hm]
    have hf := fc_flat mild (l.take 200)
    generalize fc mild (l.take 200) = cs at hlen hf
    unfold outF
    by_cases h0 : m = 0
    · subst h0
      rw [oV_nil, oB_nil, if_pos rfl]
      refine Wp.seq (Wp.seq (Wp.text ?_))
      refine kp 7 (.int IntKind.i64 (↑0 : Int)) ?_
      refine kp 8 (.iface 3 (Value.iface (List.length l) (Value.iface x (Value.agg (List.toArray (List.map (fun n => Value.int .i64 n) l)))))) ?_
      refine kp 9 (.int IntKind.i64 (↑(List.length l) : Int)) ?_
      refine kp 10 (.bool (decide ((↑0 : Int) < (↑(List.length l) : Int)))) ?_
      refine kp 11 (.bool (decide ((↑0 : Int) < (↑(List.length l) : Int)))) ?_
      refine WpOps.fork 3 (decide ((↑0 : Int) < (↑(List.length l) : Int))) [12, 13, 14] 14 (true) (false) (by kernel_rfl) (fun g14 => ?_) (fun g14 => ?_) (fun f_14 b14 hb14 => ?_)
      · refine kp 12 (.int IntKind.i64 (↑0 : Int)) ?_ (hw := wants_tt g14)
        refine kp 13 (.bool true) ?_ (hw := wants_tt g14)
        refine kp 14 (.bool true) ?_ (hop := fun _ => o_pickT g14)
        refine WpOps.nil ?_
        exact ⟨rfl, (.upd rfl (.upd rfl (.upd rfl .refl))), (by kernel_rfl)⟩
      · refine um 12 ?_ (hw := wants_ft g14)
        refine um 13 ?_ (hw := wants_ft g14)
        refine kp 14 (.bool false) ?_ (hop := fun _ => o_pickF g14)
        refine WpOps.nil ?_
        exact ⟨rfl, (.upd rfl (.upd rfl (.upd rfl .refl))), (by kernel_rfl)⟩
      refine WpOps.nil (thenK_at ?_)
      refine Wp.split (b14) (by kernel_rfl) (fun hc => ?_) (fun hc => ?_)
      · exfalso
        have h00 : l.length = 0 := by omega
        rw [hb14, h00] at hc
        simp at hc
      · refine Wp.exit (thenK_exit (thenK_exit (blockK_hit (thenK_at (Wp.seq (Wp.text ?_))))))
        refine kp 26 (.slice none 0 0) ?_
        refine kp 4 (.slice none 0 0) ?_
        refine WpOps.nil (thenK_at (Wp.ret ?_))
        refine endK_retn [Value.slice none 0 0] (Value.slice none 0 0) (by kernel_rfl) (by kernel_rfl) ?_
        obtain ⟨ti, ht⟩ := types36
        exact ⟨.slice none 0 0, by kernel_rfl, .w (.c (.inr ⟨rfl, 36, ti, ht, rfl⟩))⟩
    · rw [oV_own h0, oB_own h0, if_neg h0]
      refine Wp.seq (Wp.seq (Wp.text ?_))
      refine kp 7 (.int IntKind.i64 (↑m : Int)) ?_
      refine kp 8 (.iface 3 (Value.iface (List.length l) (Value.iface x (Value.agg (List.toArray (List.map (fun n => Value.int .i64 n) l)))))) ?_
      refine kp 9 (.int IntKind.i64 (↑(List.length l) : Int)) ?_
      refine kp 10 (.bool (decide ((↑m : Int) < (↑(List.length l) : Int)))) ?_
      refine kp 11 (.bool (decide ((↑m : Int) < (↑(List.length l) : Int)))) ?_
      refine WpOps.fork 3 (decide ((↑m : Int) < (↑(List.length l) : Int))) [12, 13, 14] 14 (decide ((↑m : Int) < 200)) (false) (by kernel_rfl) (fun g14 => ?_) (fun g14 => ?_) (fun f_14 b14 hb14 => ?_)
      · refine kp 12 (.int IntKind.i64 (↑m : Int)) ?_ (hw := wants_tt g14)
        refine kp 13 (.bool (decide ((↑m : Int) < 200))) ?_ (hw := wants_tt g14)
        refine kp 14 (.bool (decide ((↑m : Int) < 200))) ?_ (hop := fun _ => o_pickT g14)
        refine WpOps.nil ?_
        exact ⟨rfl, (.upd rfl (.upd rfl (.upd rfl .refl))), (by kernel_rfl)⟩
      · refine um 12 ?_ (hw := wants_ft g14)
        refine um 13 ?_ (hw := wants_ft g14)
        refine kp 14 (.bool false) ?_ (hop := fun _ => o_pickF g14)
        refine WpOps.nil ?_
        exact ⟨rfl, (.upd rfl (.upd rfl (.upd rfl .refl))), (by kernel_rfl)⟩
      refine WpOps.nil (thenK_at ?_)
      refine Wp.split (b14) (by kernel_rfl) (fun hc => ?_) (fun hc => ?_)
      · rw [hb14, d3] at hc
        cases hc
      · refine Wp.exit (thenK_exit (thenK_exit (blockK_hit (thenK_at (Wp.seq (Wp.text ?_))))))
        refine kp 26 (.slice (some ⟨0, 0, none⟩) m m) ?_
        refine kp 4 (.slice (some ⟨0, 0, none⟩) m m) ?_
        refine WpOps.nil (thenK_at (Wp.ret ?_))
        refine endK_retn [Value.slice (some (Addr.mk 0 0 none)) m m] (Value.slice (some (Addr.mk 0 0 none)) m m) (by kernel_rfl) (by kernel_rfl) ?_
        exact ⟨FS 36 m 0 cs.toArray, ice_row 36 cs (by kernel_rfl) hf hlen (by kernel_rfl), .w (.c (.inl rfl))⟩
end Go.Proofs.Ytdkmdpklojeepaa.D
