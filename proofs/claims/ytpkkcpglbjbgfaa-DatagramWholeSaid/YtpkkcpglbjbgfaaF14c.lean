/- Addresses: address.Valid and the document's IsPrefix, Valid. -/
import Derived.Test.YtpkkcpglbjbgfaaFwLem
import Derived.Test.YtpkkcpglbjbgfaaF14b
namespace Go.Proofs.Ytpkkcpglbjbgfaa.D
open Go.Fw Go.RowKit

theorem f49 : E.funcs 49 = some Try.f49 := by kernel_rfl
theorem valid49 (x : Nat) (l : List Int) (hl : l.length ≤ 9223372036854775806) : Fun E 49 [sl x l] (.bool (isAddr l)) := by
  refine Fun.of f49 rfl (of_decide_eq_true (by kernel_rfl)) rfl ?_
  have h1 := prefix78 x l hl
  refine Wp.seq (Wp.text ?_)
  refine kp 2 (.bool false) ?_
  refine WpOps.nil (thenK_at (Wp.seq (Wp.text ?_)))
  refine kp 3 (.iface 3 (Value.iface (List.length l) (Value.iface x (Value.agg (List.toArray (List.map (fun n => Value.int .i64 n) l)))))) ?_
  refine kp 4 (.int IntKind.i64 (↑(List.length l) : Int)) ?_
  refine kp 5 (.bool (decide ((↑(List.length l) : Int) > 0))) ?_
  refine kp 6 (.bool (decide ((↑(List.length l) : Int) > 0))) ?_
  refine WpOps.fork 3 (decide ((↑(List.length l) : Int) > 0)) [7, 8, 9] 9 (isPre l) (false) (by kernel_rfl) (fun g9 => ?_) (fun g9 => ?_) (fun f_9 b9 hb9 => ?_)
  · refine kp 7 (.iface 3 (Value.iface (List.length l) (Value.iface x (Value.agg (List.toArray (List.map (fun n => Value.int .i64 n) l)))))) ?_ (hw := wants_tt g9)
    refine fr 8 78 [Value.iface 3 (Value.iface (List.length l) (Value.iface x (Value.agg (List.toArray (List.map (fun n => Value.int .i64 n) l)))))] ?_ (hw := wants_tt g9)
    refine WpFun.of (h1) ?_
    refine kp 9 (.bool (isPre l)) ?_ (hop := fun _ => o_pickT g9)
    refine WpOps.nil ?_
    exact ⟨rfl, (.upd rfl (.upd rfl (.upd rfl .refl))), (by kernel_rfl)⟩
  · refine um 7 ?_ (hw := wants_ft g9)
    refine um 8 ?_ (hw := wants_ft g9)
    refine kp 9 (.bool false) ?_ (hop := fun _ => o_pickF g9)
    refine WpOps.nil ?_
    exact ⟨rfl, (.upd rfl (.upd rfl (.upd rfl .refl))), (by kernel_rfl)⟩
  refine kp 2 (.bool b9) ?_
  refine WpOps.nil (thenK_at (Wp.ret ?_))
  refine endK_retn [Value.bool b9] (Value.bool b9) (by kernel_rfl) (by kernel_rfl) ?_
  subst_vars
  rfl

theorem f46 : E.funcs 46 = some Try.f46 := by kernel_rfl
theorem in46 (n lo hi : Int) : Fun E 46 [.int .i64 n, .int .i64 lo, .int .i64 hi] (.bool (inR n lo hi)) := by
  refine Fun.of f46 rfl (of_decide_eq_true (by kernel_rfl)) rfl ?_
  refine Wp.seq (Wp.text ?_)
  refine kp 6 (.bool false) ?_
  refine WpOps.nil (thenK_at (Wp.seq (Wp.text ?_)))
  refine kp 7 (.int IntKind.i64 n) ?_
  refine kp 8 (.int IntKind.i64 lo) ?_
  refine kp 9 (.bool (decide (n ≥ lo))) ?_
  refine kp 10 (.bool (decide (n ≥ lo))) ?_
  refine WpOps.fork 4 (decide (n ≥ lo)) [11, 12, 13, 14] 14 (decide (n ≤ hi)) (false) (by kernel_rfl) (fun g14 => ?_) (fun g14 => ?_) (fun f_14 b14 hb14 => ?_)
  · refine kp 11 (.int IntKind.i64 n) ?_ (hw := wants_tt g14)
    refine kp 12 (.int IntKind.i64 hi) ?_ (hw := wants_tt g14)
    refine kp 13 (.bool (decide (n ≤ hi))) ?_ (hw := wants_tt g14)
    refine kp 14 (.bool (decide (n ≤ hi))) ?_ (hop := fun _ => o_pickT g14)
    refine WpOps.nil ?_
    exact ⟨rfl, (.upd rfl (.upd rfl (.upd rfl (.upd rfl .refl)))), (by kernel_rfl)⟩
  · refine um 11 ?_ (hw := wants_ft g14)
    refine um 12 ?_ (hw := wants_ft g14)
    refine um 13 ?_ (hw := wants_ft g14)
    refine kp 14 (.bool false) ?_ (hop := fun _ => o_pickF g14)
    refine WpOps.nil ?_
    exact ⟨rfl, (.upd rfl (.upd rfl (.upd rfl (.upd rfl .refl)))), (by kernel_rfl)⟩
  refine kp 6 (.bool b14) ?_
  refine WpOps.nil (thenK_at (Wp.ret ?_))
  refine endK_retn [Value.bool b14] (Value.bool b14) (by kernel_rfl) (by kernel_rfl) ?_
  subst_vars
  rfl

theorem f79 : E.funcs 79 = some Try.f79 := by kernel_rfl
theorem prefix79 (x : Nat) (l : List Int) : Fun E 79 [sl x l] (.bool (isPre l)) := by
  refine Fun.of f79 rfl (of_decide_eq_true (by kernel_rfl)) rfl ?_
  refine Wp.seq (Wp.text ?_)
  refine kp 2 (.bool false) ?_
  refine WpOps.nil (thenK_at (Wp.seq (Wp.seq (Wp.text ?_))))
  refine kp 4 (.iface 3 (Value.iface (List.length l) (Value.iface x (Value.agg (List.toArray (List.map (fun n => Value.int .i64 n) l)))))) ?_
  refine kp 5 (.int IntKind.i64 (↑(List.length l) : Int)) ?_
  refine kp 6 (.bool (decide ((↑(List.length l) : Int) > 10))) ?_
  refine WpOps.nil (thenK_at ?_)
  refine Wp.split (decide ((↑(List.length l) : Int) > 10)) (by kernel_rfl) (fun hc => ?_) (fun hc => ?_)
  · refine Wp.seq (Wp.text ?_)
    refine kp 2 (.bool false) ?_
    refine WpOps.nil (thenK_at (Wp.ret (thenK_ret ?_)))
    refine endK_retn [Value.bool false] (Value.bool false) (by kernel_rfl) (by kernel_rfl) ?_
    have : isPre l = false := by
      have := of_decide_eq_true hc
      simp only [isPre, decide_eq_false (show ¬ ((l.length : Int) ≤ 10) by omega), cond_false]
    rw [this]
    rfl
  · refine Wp.skip (thenK_at (Wp.seq (Wp.seq (Wp.text ?_))))
    refine kp 3 (.int IntKind.i64 0) ?_
    refine WpOps.nil (thenK_at (Wp.block ?_))
    have h10 : (l.length : Int) ≤ 10 := by
      have := of_decide_eq_false hc
      omega
    refine Wp.loop (G := Nat) (fun i => layj [(0, sl x l), (3, .int .i64 i)]) (fun _ => heapOf []) (fun i => l.length - i) (fun i => i ≤ l.length ∧ ∀ j, j < i → bad (l.getD j 0) = false) 0
      (View.of [] [] _ List.nodup_nil rfl trivial ⟨⟨by kernel_rfl, rfl⟩, ⟨by kernel_rfl, rfl⟩, trivial⟩) ⟨Nat.zero_le _, fun j hj => absurd hj (Nat.not_lt_zero _)⟩ ?_
    rintro i ⟨hi, hp⟩
    refine Wp.seq (Wp.seq (Wp.text ?_))
    refine kp 7 (.int IntKind.i64 (↑i : Int)) ?_
    refine kp 8 (.iface 3 (Value.iface (List.length l) (Value.iface x (Value.agg (List.toArray (List.map (fun n => Value.int .i64 n) l)))))) ?_
    refine kp 9 (.int IntKind.i64 (↑(List.length l) : Int)) ?_
    refine kp 10 (.bool (decide ((↑i : Int) < (↑(List.length l) : Int)))) ?_
    refine WpOps.nil (thenK_at ?_)
    refine Wp.split (decide ((↑i : Int) < (↑(List.length l) : Int))) (by kernel_rfl) (fun hd => ?_) (fun hd => ?_)
    · have hlt : (i : Int) < l.length := of_decide_eq_true hd
      have h0 : 0 ≤ (i : Int) ∧ (i : Int) < l.length := ⟨Int.natCast_nonneg _, hlt⟩
      have hv := sl_at l i (by omega)
      refine Wp.skip (thenK_at (Wp.seq (Wp.block (Wp.seq (Wp.text ?_)))))
      refine kp 13 (.iface 3 (Value.iface (List.length l) (Value.iface x (Value.agg (List.toArray (List.map (fun n => Value.int .i64 n) l)))))) ?_
      refine kp 14 (.int IntKind.i64 (↑i : Int)) ?_
      refine kp 15 (.iface 3 (Value.iface (Int.toNat (↑i : Int) * 1) (Value.agg (List.toArray (List.map (fun n => Value.int .i64 n) l))))) ?_ (hop := fun _ => o_indexI (e := 3) (size := 1) (a := (↑i : Int)) h0)
      refine kp 16 (.int IntKind.i64 (List.getD l i 0)) ?_ (hop := fun _ => o_loadI1 (Int.toNat (↑i : Int) * 1) hv)
      refine kp 17 (.bool (decide (List.getD l i 0 < 0))) ?_
      refine kp 18 (.bool (decide (List.getD l i 0 < 0))) ?_
      refine WpOps.fork 6 (decide (List.getD l i 0 < 0)) [19, 20, 21, 22, 23, 24] 24 (true) (decide (List.getD l i 0 > 999)) (by kernel_rfl) (fun g24 => ?_) (fun g24 => ?_) (fun f_24 b24 hb24 => ?_)
      · refine um 19 ?_ (hw := wants_tf g24)
        refine um 20 ?_ (hw := wants_tf g24)
        refine um 21 ?_ (hw := wants_tf g24)
        refine um 22 ?_ (hw := wants_tf g24)
        refine um 23 ?_ (hw := wants_tf g24)
        refine kp 24 (.bool true) ?_ (hop := fun _ => o_pickT g24)
        refine WpOps.nil ?_
        exact ⟨rfl, (.upd rfl (.upd rfl (.upd rfl (.upd rfl (.upd rfl (.upd rfl .refl)))))), (by kernel_rfl)⟩
      · refine kp 19 (.iface 3 (Value.iface (List.length l) (Value.iface x (Value.agg (List.toArray (List.map (fun n => Value.int .i64 n) l)))))) ?_ (hw := wants_ff g24)
        refine kp 20 (.int IntKind.i64 (↑i : Int)) ?_ (hw := wants_ff g24)
        refine kp 21 (.iface 3 (Value.iface (Int.toNat (↑i : Int) * 1) (Value.agg (List.toArray (List.map (fun n => Value.int .i64 n) l))))) ?_ (hw := wants_ff g24) (hop := fun _ => o_indexI (e := 3) (size := 1) (a := (↑i : Int)) h0)
        refine kp 22 (.int IntKind.i64 (List.getD l i 0)) ?_ (hw := wants_ff g24) (hop := fun _ => o_loadI1 (Int.toNat (↑i : Int) * 1) hv)
        refine kp 23 (.bool (decide (List.getD l i 0 > 999))) ?_ (hw := wants_ff g24)
        refine kp 24 (.bool (decide (List.getD l i 0 > 999))) ?_ (hop := fun _ => o_pickF g24)
        refine WpOps.nil ?_
        exact ⟨rfl, (.upd rfl (.upd rfl (.upd rfl (.upd rfl (.upd rfl (.upd rfl .refl)))))), (by kernel_rfl)⟩
      refine WpOps.nil (thenK_at ?_)
      refine Wp.split (b24) (by kernel_rfl) (fun hb => ?_) (fun hb => ?_)
      · refine Wp.seq (Wp.text ?_)
        refine kp 2 (.bool false) ?_
        refine WpOps.nil (thenK_at (Wp.ret (blockK_ret (thenK_ret (thenK_ret (blockK_ret (thenK_ret ?_)))))))
        refine endK_retn [Value.bool false] (Value.bool false) (by kernel_rfl) (by kernel_rfl) ?_
        have hbad : bad (l.getD i 0) = true := hb24.symm.trans hb
        have : l.any bad = true := List.any_eq_true.2 ⟨l[i]'(by omega), List.getElem_mem _, by simpa [List.getElem?_eq_getElem (show i < l.length by omega)] using hbad⟩
        simp only [isPre, this, decide_eq_true h10, cond_true]
        rfl
      · refine Wp.skip (blockK_norm (thenK_at (Wp.text ?_)))
        refine kp 11 (.int IntKind.i64 (↑i : Int)) ?_
        refine kp 12 (.int IntKind.i64 (IntKind.wrap .i64 ((↑i : Int) + 1))) ?_
        refine kp 3 (.int IntKind.i64 (IntKind.wrap .i64 ((↑i : Int) + 1))) ?_
        refine WpOps.nil (thenK_at ?_)
        refine ⟨i + 1, by omega, ⟨by omega, fun j hj => ?_⟩, View.of [] [] _ List.nodup_nil rfl trivial ⟨⟨by kernel_rfl, rfl⟩, ⟨congrArg (Value.int .i64) (wrap_i64 ((i : Int) + 1) (by omega) (by omega)), rfl⟩, trivial⟩⟩
        rcases Nat.lt_or_ge j i with h | h
        · exact hp j h
        · obtain rfl : j = i := by omega
          exact hb24.symm.trans hb
    · refine Wp.exit (thenK_exit (thenK_exit (blockK_hit (thenK_at (Wp.seq (Wp.text ?_))))))
      refine kp 2 (.bool true) ?_
      refine WpOps.nil (thenK_at (Wp.ret ?_))
      refine endK_retn [Value.bool true] (Value.bool true) (by kernel_rfl) (by kernel_rfl) ?_
      have hlen : ¬ ((i : Int) < l.length) := of_decide_eq_false hd
      have : l.any bad = false := by
        rw [List.any_eq_false]
        intro v hv
        obtain ⟨j, hj, rfl⟩ := List.getElem_of_mem hv
        have := hp j (by omega)
        simpa [List.getElem?_eq_getElem hj] using this
      simp only [isPre, this, decide_eq_true h10, cond_true]
      rfl

theorem f55 : E.funcs 55 = some Try.f55 := by kernel_rfl
theorem valid55 (x : Nat) (l : List Int) : Fun E 55 [sl x l] (.bool (isAddr l)) := by
  refine Fun.of f55 rfl (of_decide_eq_true (by kernel_rfl)) rfl ?_
  have h1 := prefix79 x l
  refine Wp.seq (Wp.text ?_)
  refine kp 2 (.bool false) ?_
  refine WpOps.nil (thenK_at (Wp.seq (Wp.text ?_)))
  refine kp 3 (.iface 3 (Value.iface (List.length l) (Value.iface x (Value.agg (List.toArray (List.map (fun n => Value.int .i64 n) l)))))) ?_
  refine kp 4 (.int IntKind.i64 (↑(List.length l) : Int)) ?_
  refine kp 5 (.bool (decide ((↑(List.length l) : Int) ≥ 1))) ?_
  refine kp 6 (.bool (decide ((↑(List.length l) : Int) ≥ 1))) ?_
  refine WpOps.fork 3 (decide ((↑(List.length l) : Int) ≥ 1)) [7, 8, 9] 9 (isPre l) (false) (by kernel_rfl) (fun g9 => ?_) (fun g9 => ?_) (fun f_9 b9 hb9 => ?_)
  · refine kp 7 (.iface 3 (Value.iface (List.length l) (Value.iface x (Value.agg (List.toArray (List.map (fun n => Value.int .i64 n) l)))))) ?_ (hw := wants_tt g9)
    refine fr 8 79 [Value.iface 3 (Value.iface (List.length l) (Value.iface x (Value.agg (List.toArray (List.map (fun n => Value.int .i64 n) l)))))] ?_ (hw := wants_tt g9)
    refine WpFun.of (h1) ?_
    refine kp 9 (.bool (isPre l)) ?_ (hop := fun _ => o_pickT g9)
    refine WpOps.nil ?_
    exact ⟨rfl, (.upd rfl (.upd rfl (.upd rfl .refl))), (by kernel_rfl)⟩
  · refine um 7 ?_ (hw := wants_ft g9)
    refine um 8 ?_ (hw := wants_ft g9)
    refine kp 9 (.bool false) ?_ (hop := fun _ => o_pickF g9)
    refine WpOps.nil ?_
    exact ⟨rfl, (.upd rfl (.upd rfl (.upd rfl .refl))), (by kernel_rfl)⟩
  refine kp 2 (.bool b9) ?_
  refine WpOps.nil (thenK_at (Wp.ret ?_))
  refine endK_retn [Value.bool b9] (Value.bool b9) (by kernel_rfl) (by kernel_rfl) ?_
  have : decide ((l.length : Int) ≥ 1) = decide ((l.length : Int) > 0) := decide_eq_decide.2 (by omega)
  rw [this] at hb9
  subst_vars
  rfl

/-- A datagram. -/
structure Gr where
  fx : Nat
  fr : List Int
  tx : Nat
  to : List Int
  number : Int
  life : Int
  at' : Int
  total : Int
  report : Int
  more : Bool
  may : Bool
  wants : Bool
  data : ByteArray
def gc (g : Gr) : List Value := [sl g.fx g.fr, sl g.tx g.to, .int .i64 g.number, .int .i64 g.life, .int .i64 g.at', .int .i64 g.total, .int .i64 g.report, .bool g.more, .bool g.may, .bool g.wants, .string g.data]
def gv (g : Gr) : Value := .agg (gc g).toArray
/-- Is it valid? -/
def okG (g : Gr) : Bool := isAddr g.fr && isAddr g.to && inR g.number 0 65535 && inR g.life 0 60 && inR g.report 0 4 && !(decide (g.report > 0) && g.wants) && inR g.total 0 4000 && inR g.at' 0 g.total &&
  decide ((g.data.size : Int) ≤ IntKind.i64.wrap (g.total - g.at')) && (g.more == decide (IntKind.i64.wrap (g.at' + g.data.size) < g.total))

theorem f20 : E.funcs 20 = some Try.f20 := by kernel_rfl
theorem okG_1 {g : Gr} (h : (isAddr g.fr && isAddr g.to && inR g.number 0 65535 && inR g.life 0 60 && inR g.report 0 4 && !(decide (g.report > 0) && g.wants)) = false) : okG g = false := by
  simp only [okG, h, Bool.false_and]
theorem okG_2 {g : Gr} (h : (inR g.total 0 4000 && inR g.at' 0 g.total && !decide ((g.data.size : Int) > IntKind.i64.wrap (g.total - g.at'))) = false) : okG g = false := by
  have e : decide ((g.data.size : Int) ≤ IntKind.i64.wrap (g.total - g.at')) = !decide ((g.data.size : Int) > IntKind.i64.wrap (g.total - g.at')) := by
    rw [← decide_not]; exact decide_eq_decide.2 (by omega)
  rw [← e] at h
  simp only [okG]
  revert h
  cases inR g.total 0 4000 <;> cases inR g.at' 0 g.total <;> cases decide ((g.data.size : Int) ≤ IntKind.i64.wrap (g.total - g.at')) <;> simp
theorem okG_3 {g : Gr} (h1 : (isAddr g.fr && isAddr g.to && inR g.number 0 65535 && inR g.life 0 60 && inR g.report 0 4 && !(decide (g.report > 0) && g.wants)) = true) (h2 : (inR g.total 0 4000 && inR g.at' 0 g.total && !decide ((g.data.size : Int) > IntKind.i64.wrap (g.total - g.at'))) = true) :
    okG g = (g.more == decide (IntKind.i64.wrap (g.at' + g.data.size) < g.total)) := by
  have e : decide ((g.data.size : Int) ≤ IntKind.i64.wrap (g.total - g.at')) = !decide ((g.data.size : Int) > IntKind.i64.wrap (g.total - g.at')) := by
    rw [← decide_not]; exact decide_eq_decide.2 (by omega)
  rw [← e] at h2
  simp only [okG, h1, Bool.true_and, h2]
theorem chain6 (a b c d e r w : Bool) : cond (cond (cond (cond (cond (!a) true (!b)) true (!c)) true (!d)) true (!e)) true (cond r w false) = !(a && b && c && d && e && !(r && w)) := by
  cases a <;> cases b <;> cases c <;> cases d <;> cases e <;> cases r <;> cases w <;> rfl
theorem chain3 (a b c : Bool) : cond (cond (!a) true (!b)) true c = !(a && b && !c) := by
  cases a <;> cases b <;> cases c <;> rfl

theorem valid20 (g : Gr) (h1 : g.fr.length ≤ 9223372036854775806) (h2 : g.to.length ≤ 9223372036854775806) : Fun E 20 [gv g] (.bool (okG g)) := by
  refine Fun.of f20 rfl (of_decide_eq_true (by kernel_rfl)) rfl ?_
  have v1 := valid49 g.fx g.fr h1
  have v2 := valid49 g.tx g.to h2
  have i1 := in44
  refine Wp.seq (Wp.text ?_)
  refine md 1 (.pointer (some ⟨0, 0, none⟩)) (Blk.mk 24 true (gc g)) ?_
  refine kp 2 (.bool false) ?_
  refine WpOps.nil (thenK_at (Wp.seq (Wp.seq (Wp.text ?_))))
  refine kp 3 (.pointer (some ⟨0, 0, none⟩)) ?_
  refine kp 4 (.iface 3 (Value.iface (List.length (Gr.fr g)) (Value.iface (Gr.fx g) (Value.agg (List.toArray (List.map (fun n => Value.int .i64 n) (Gr.fr g))))))) ?_
  refine fr 5 49 [Value.iface 3 (Value.iface (List.length (Gr.fr g)) (Value.iface (Gr.fx g) (Value.agg (List.toArray (List.map (fun n => Value.int .i64 n) (Gr.fr g))))))] ?_
  refine WpFun.of (v1) ?_
  refine kp 6 (.bool !isAddr (Gr.fr g)) ?_
  refine kp 7 (.bool !isAddr (Gr.fr g)) ?_
  refine WpOps.fork 5 (!isAddr (Gr.fr g)) [8, 9, 10, 11, 12] 12 (true) (!isAddr (Gr.to g)) (by kernel_rfl) (fun g12 => ?_) (fun g12 => ?_) (fun f_12 b12 hb12 => ?_)
  · refine um 8 ?_ (hw := wants_tf g12)
    refine um 9 ?_ (hw := wants_tf g12)
    refine um 10 ?_ (hw := wants_tf g12)
    refine um 11 ?_ (hw := wants_tf g12)
    refine kp 12 (.bool true) ?_ (hop := fun _ => o_pickT g12)
    refine WpOps.nil ?_
    exact ⟨rfl, (.upd rfl (.upd rfl (.upd rfl (.upd rfl (.upd rfl .refl))))), (by kernel_rfl)⟩
  · refine kp 8 (.pointer (some ⟨0, 1, none⟩)) ?_ (hw := wants_ff g12)
    refine kp 9 (.iface 3 (Value.iface (List.length (Gr.to g)) (Value.iface (Gr.tx g) (Value.agg (List.toArray (List.map (fun n => Value.int .i64 n) (Gr.to g))))))) ?_ (hw := wants_ff g12)
    refine fr 10 49 [Value.iface 3 (Value.iface (List.length (Gr.to g)) (Value.iface (Gr.tx g) (Value.agg (List.toArray (List.map (fun n => Value.int .i64 n) (Gr.to g))))))] ?_ (hw := wants_ff g12)
    refine WpFun.of (v2) ?_
    refine kp 11 (.bool !isAddr (Gr.to g)) ?_ (hw := wants_ff g12)
    refine kp 12 (.bool !isAddr (Gr.to g)) ?_ (hop := fun _ => o_pickF g12)
    refine WpOps.nil ?_
    exact ⟨rfl, (.upd rfl (.upd rfl (.upd rfl (.upd rfl (.upd rfl .refl))))), (by kernel_rfl)⟩
  refine kp 13 (.bool b12) ?_
  refine WpOps.fork 5 (b12) [14, 15, 16, 17, 18] 18 (true) (!inR (Gr.number g) 0 65535) (by kernel_rfl) (fun g18 => ?_) (fun g18 => ?_) (fun f_18 b18 hb18 => ?_)
  · refine um 14 ?_ (hw := wants_tf g18)
    refine um 15 ?_ (hw := wants_tf g18)
    refine um 16 ?_ (hw := wants_tf g18)
    refine um 17 ?_ (hw := wants_tf g18)
    refine kp 18 (.bool true) ?_ (hop := fun _ => o_pickT g18)
    refine WpOps.nil ?_
    exact ⟨rfl, (.upd rfl (.upd rfl (.upd rfl (.upd rfl (.upd rfl .refl))))), (by kernel_rfl)⟩
  · refine kp 14 (.pointer (some ⟨0, 2, none⟩)) ?_ (hw := wants_ff g18)
    refine kp 15 (.int IntKind.i64 (Gr.number g)) ?_ (hw := wants_ff g18)
    refine fr 16 44 [Value.int .i64 (Gr.number g), Value.int .i64 0, Value.int .i64 65535] ?_ (hw := wants_ff g18)
    refine WpFun.of (i1 _ _ _) ?_
    refine kp 17 (.bool !inR (Gr.number g) 0 65535) ?_ (hw := wants_ff g18)
    refine kp 18 (.bool !inR (Gr.number g) 0 65535) ?_ (hop := fun _ => o_pickF g18)
    refine WpOps.nil ?_
    exact ⟨rfl, (.upd rfl (.upd rfl (.upd rfl (.upd rfl (.upd rfl .refl))))), (by kernel_rfl)⟩
  refine kp 19 (.bool b18) ?_
  refine WpOps.fork 5 (b18) [20, 21, 22, 23, 24] 24 (true) (!inR (Gr.life g) 0 60) (by kernel_rfl) (fun g24 => ?_) (fun g24 => ?_) (fun f_24 b24 hb24 => ?_)
  · refine um 20 ?_ (hw := wants_tf g24)
    refine um 21 ?_ (hw := wants_tf g24)
    refine um 22 ?_ (hw := wants_tf g24)
    refine um 23 ?_ (hw := wants_tf g24)
    refine kp 24 (.bool true) ?_ (hop := fun _ => o_pickT g24)
    refine WpOps.nil ?_
    exact ⟨rfl, (.upd rfl (.upd rfl (.upd rfl (.upd rfl (.upd rfl .refl))))), (by kernel_rfl)⟩
  · refine kp 20 (.pointer (some ⟨0, 3, none⟩)) ?_ (hw := wants_ff g24)
    refine kp 21 (.int IntKind.i64 (Gr.life g)) ?_ (hw := wants_ff g24)
    refine fr 22 44 [Value.int .i64 (Gr.life g), Value.int .i64 0, Value.int .i64 60] ?_ (hw := wants_ff g24)
    refine WpFun.of (i1 _ _ _) ?_
    refine kp 23 (.bool !inR (Gr.life g) 0 60) ?_ (hw := wants_ff g24)
    refine kp 24 (.bool !inR (Gr.life g) 0 60) ?_ (hop := fun _ => o_pickF g24)
    refine WpOps.nil ?_
    exact ⟨rfl, (.upd rfl (.upd rfl (.upd rfl (.upd rfl (.upd rfl .refl))))), (by kernel_rfl)⟩
  refine kp 25 (.bool b24) ?_
  refine WpOps.fork 5 (b24) [26, 27, 28, 29, 30] 30 (true) (!inR (Gr.report g) 0 4) (by kernel_rfl) (fun g30 => ?_) (fun g30 => ?_) (fun f_30 b30 hb30 => ?_)
  · refine um 26 ?_ (hw := wants_tf g30)
    refine um 27 ?_ (hw := wants_tf g30)
    refine um 28 ?_ (hw := wants_tf g30)
    refine um 29 ?_ (hw := wants_tf g30)
    refine kp 30 (.bool true) ?_ (hop := fun _ => o_pickT g30)
    refine WpOps.nil ?_
    exact ⟨rfl, (.upd rfl (.upd rfl (.upd rfl (.upd rfl (.upd rfl .refl))))), (by kernel_rfl)⟩
  · refine kp 26 (.pointer (some ⟨0, 6, none⟩)) ?_ (hw := wants_ff g30)
    refine kp 27 (.int IntKind.i64 (Gr.report g)) ?_ (hw := wants_ff g30)
    refine fr 28 44 [Value.int .i64 (Gr.report g), Value.int .i64 0, Value.int .i64 4] ?_ (hw := wants_ff g30)
    refine WpFun.of (i1 _ _ _) ?_
    refine kp 29 (.bool !inR (Gr.report g) 0 4) ?_ (hw := wants_ff g30)
    refine kp 30 (.bool !inR (Gr.report g) 0 4) ?_ (hop := fun _ => o_pickF g30)
    refine WpOps.nil ?_
    exact ⟨rfl, (.upd rfl (.upd rfl (.upd rfl (.upd rfl (.upd rfl .refl))))), (by kernel_rfl)⟩
  refine kp 31 (.bool b30) ?_
  refine WpOps.fork 8 (b30) [32, 33, 34, 35, 36, 37, 38, 39] 39 (true) (bif decide (Gr.report g > 0) then Gr.wants g else false) (by kernel_rfl) (fun g39 => ?_) (fun g39 => ?_) (fun f_39 b39 hb39 => ?_)
  · refine um 32 ?_ (hw := wants_tf g39)
    refine um 33 ?_ (hw := wants_tf g39)
    refine um 34 ?_ (hw := wants_tf g39)
    refine um 35 ?_ (hw := wants_tf g39)
    refine um 36 ?_
    refine um 37 ?_
    refine um 38 ?_ (hw := wants_tf g39)
    refine kp 39 (.bool true) ?_ (hop := fun _ => o_pickT g39)
    refine WpOps.nil ?_
    exact ⟨rfl, (.upd rfl (.upd rfl (.upd rfl (.upd rfl (.upd rfl (.upd rfl (.upd rfl (.upd rfl .refl)))))))), (by kernel_rfl)⟩
  · refine kp 32 (.pointer (some ⟨0, 6, none⟩)) ?_ (hw := wants_ff g39)
    refine kp 33 (.int IntKind.i64 (Gr.report g)) ?_ (hw := wants_ff g39)
    refine kp 34 (.bool (decide (Gr.report g > 0))) ?_ (hw := wants_ff g39)
    refine kp 35 (.bool (decide (Gr.report g > 0))) ?_ (hw := wants_ff g39)
    refine WpOps.forkE 4 (decide (Gr.report g > 0)) [36, 37, 38, 39] 39 (Gr.wants g) (false) (by kernel_rfl) (fun g39' => ?_) (fun g39' => ?_) (fun f_39 => ?_)
    · refine kp 36 (.pointer (some ⟨0, 9, none⟩)) ?_ (hw := wants_tt g39')
      refine kp 37 (.bool (Gr.wants g)) ?_ (hw := wants_tt g39')
      refine kp 38 (.bool (Gr.wants g)) ?_ (hw := wants_ff g39) (hop := fun _ => o_pickT g39')
      refine kp 39 (.bool (Gr.wants g)) ?_ (hop := fun _ => o_pickF g39)
      refine WpOps.nil ?_
      exact ⟨rfl, (.upd rfl (.upd rfl (.upd rfl (.upd rfl .refl)))), (by kernel_rfl)⟩
    · refine um 36 ?_ (hw := wants_ft g39')
      refine um 37 ?_ (hw := wants_ft g39')
      refine kp 38 (.bool false) ?_ (hw := wants_ff g39) (hop := fun _ => o_pickF g39')
      refine kp 39 (.bool false) ?_ (hop := fun _ => o_pickF g39)
      refine WpOps.nil ?_
      exact ⟨rfl, (.upd rfl (.upd rfl (.upd rfl (.upd rfl .refl)))), (by kernel_rfl)⟩
    refine WpOps.nil ?_
    exact ⟨rfl, (.upd rfl (.mix rfl (.upd rfl (.upd rfl (.upd rfl (.upd rfl .refl)))))), (by kernel_rfl)⟩
  refine WpOps.nil (thenK_at ?_)
  refine Wp.split (b39) (by kernel_rfl) (fun hc => ?_) (fun hc => ?_)
  · refine Wp.seq (Wp.text ?_)
    refine kp 2 (.bool false) ?_
    refine WpOps.nil (thenK_at (Wp.ret (thenK_ret ?_)))
    refine endK_retn [Value.bool false] (Value.bool false) (by kernel_rfl) (by kernel_rfl) ?_
    rw [hb39, hb30, hb24, hb18, hb12, chain6] at hc
    rw [okG_1 (by rwa [Bool.not_eq_true'] at hc)]
    rfl
  · refine Wp.skip (thenK_at (Wp.seq (Wp.seq (Wp.text ?_))))
    refine kp 40 (.pointer (some ⟨0, 5, none⟩)) ?_
    refine kp 41 (.int IntKind.i64 (Gr.total g)) ?_
    refine fr 42 44 [Value.int .i64 (Gr.total g), Value.int .i64 0, Value.int .i64 4000] ?_
    refine WpFun.of (i1 _ _ _) ?_
    refine kp 43 (.bool !inR (Gr.total g) 0 4000) ?_
    refine kp 44 (.bool !inR (Gr.total g) 0 4000) ?_
    refine WpOps.fork 7 (!inR (Gr.total g) 0 4000) [45, 46, 47, 48, 49, 50, 51] 51 (true) (!inR (Gr.at' g) 0 (Gr.total g)) (by kernel_rfl) (fun g51 => ?_) (fun g51 => ?_) (fun f_51 b51 hb51 => ?_)
    · refine um 45 ?_ (hw := wants_tf g51)
      refine um 46 ?_ (hw := wants_tf g51)
      refine um 47 ?_ (hw := wants_tf g51)
      refine um 48 ?_ (hw := wants_tf g51)
      refine um 49 ?_ (hw := wants_tf g51)
      refine um 50 ?_ (hw := wants_tf g51)
      refine kp 51 (.bool true) ?_ (hop := fun _ => o_pickT g51)
      refine WpOps.nil ?_
      exact ⟨rfl, (.upd rfl (.upd rfl (.upd rfl (.upd rfl (.upd rfl (.upd rfl (.upd rfl .refl))))))), (by kernel_rfl)⟩
    · refine kp 45 (.pointer (some ⟨0, 4, none⟩)) ?_ (hw := wants_ff g51)
      refine kp 46 (.int IntKind.i64 (Gr.at' g)) ?_ (hw := wants_ff g51)
      refine kp 47 (.pointer (some ⟨0, 5, none⟩)) ?_ (hw := wants_ff g51)
      refine kp 48 (.int IntKind.i64 (Gr.total g)) ?_ (hw := wants_ff g51)
      refine fr 49 44 [Value.int .i64 (Gr.at' g), Value.int .i64 0, Value.int .i64 (Gr.total g)] ?_ (hw := wants_ff g51)
      refine WpFun.of (i1 _ _ _) ?_
      refine kp 50 (.bool !inR (Gr.at' g) 0 (Gr.total g)) ?_ (hw := wants_ff g51)
      refine kp 51 (.bool !inR (Gr.at' g) 0 (Gr.total g)) ?_ (hop := fun _ => o_pickF g51)
      refine WpOps.nil ?_
      exact ⟨rfl, (.upd rfl (.upd rfl (.upd rfl (.upd rfl (.upd rfl (.upd rfl (.upd rfl .refl))))))), (by kernel_rfl)⟩
    refine kp 52 (.bool b51) ?_
    refine WpOps.fork 10 (b51) [53, 54, 55, 56, 57, 58, 59, 60, 61, 62] 62 (true) (decide ((↑(ByteArray.size (Gr.data g)) : Int) > IntKind.wrap IntKind.i64 (Gr.total g - Gr.at' g))) (by kernel_rfl) (fun g62 => ?_) (fun g62 => ?_) (fun f_62 b62 hb62 => ?_)
    · refine um 53 ?_ (hw := wants_tf g62)
      refine um 54 ?_ (hw := wants_tf g62)
      refine um 55 ?_ (hw := wants_tf g62)
      refine um 56 ?_ (hw := wants_tf g62)
      refine um 57 ?_ (hw := wants_tf g62)
      refine um 58 ?_ (hw := wants_tf g62)
      refine um 59 ?_ (hw := wants_tf g62)
      refine um 60 ?_ (hw := wants_tf g62)
      refine um 61 ?_ (hw := wants_tf g62)
      refine kp 62 (.bool true) ?_ (hop := fun _ => o_pickT g62)
      refine WpOps.nil ?_
      exact ⟨rfl, (.upd rfl (.upd rfl (.upd rfl (.upd rfl (.upd rfl (.upd rfl (.upd rfl (.upd rfl (.upd rfl (.upd rfl .refl)))))))))), (by kernel_rfl)⟩
    · refine kp 53 (.pointer (some ⟨0, 10, none⟩)) ?_ (hw := wants_ff g62)
      refine kp 54 (.string (Gr.data g)) ?_ (hw := wants_ff g62)
      refine kp 55 (.int IntKind.i64 (↑(ByteArray.size (Gr.data g)) : Int)) ?_ (hw := wants_ff g62)
      refine kp 56 (.pointer (some ⟨0, 5, none⟩)) ?_ (hw := wants_ff g62)
      refine kp 57 (.int IntKind.i64 (Gr.total g)) ?_ (hw := wants_ff g62)
      refine kp 58 (.pointer (some ⟨0, 4, none⟩)) ?_ (hw := wants_ff g62)
      refine kp 59 (.int IntKind.i64 (Gr.at' g)) ?_ (hw := wants_ff g62)
      refine kp 60 (.int IntKind.i64 (IntKind.wrap .i64 (Gr.total g - Gr.at' g))) ?_ (hw := wants_ff g62)
      refine kp 61 (.bool (decide ((↑(ByteArray.size (Gr.data g)) : Int) > IntKind.wrap .i64 (Gr.total g - Gr.at' g)))) ?_ (hw := wants_ff g62)
      refine kp 62 (.bool (decide ((↑(ByteArray.size (Gr.data g)) : Int) > IntKind.wrap .i64 (Gr.total g - Gr.at' g)))) ?_ (hop := fun _ => o_pickF g62)
      refine WpOps.nil ?_
      exact ⟨rfl, (.upd rfl (.upd rfl (.upd rfl (.upd rfl (.upd rfl (.upd rfl (.upd rfl (.upd rfl (.upd rfl (.upd rfl .refl)))))))))), (by kernel_rfl)⟩
    refine WpOps.nil (thenK_at ?_)
    rw [hb39, hb30, hb24, hb18, hb12, chain6] at hc
    refine Wp.split (b62) (by kernel_rfl) (fun hd => ?_) (fun hd => ?_)
    · refine Wp.seq (Wp.text ?_)
      refine kp 2 (.bool false) ?_
      refine WpOps.nil (thenK_at (Wp.ret (thenK_ret ?_)))
      refine endK_retn [Value.bool false] (Value.bool false) (by kernel_rfl) (by kernel_rfl) ?_
      rw [hb62, hb51, chain3] at hd
      rw [okG_2 (by rwa [Bool.not_eq_true'] at hd)]
      rfl
    · refine Wp.skip (thenK_at (Wp.seq (Wp.text ?_)))
      refine kp 63 (.pointer (some ⟨0, 7, none⟩)) ?_
      refine kp 64 (.bool (Gr.more g)) ?_
      refine kp 65 (.pointer (some ⟨0, 4, none⟩)) ?_
      refine kp 66 (.int IntKind.i64 (Gr.at' g)) ?_
      refine kp 67 (.pointer (some ⟨0, 10, none⟩)) ?_
      refine kp 68 (.string (Gr.data g)) ?_
      refine kp 69 (.int IntKind.i64 (↑(ByteArray.size (Gr.data g)) : Int)) ?_
      refine kp 70 (.int IntKind.i64 (IntKind.wrap .i64 (Gr.at' g + (↑(ByteArray.size (Gr.data g)) : Int)))) ?_
      refine kp 71 (.pointer (some ⟨0, 5, none⟩)) ?_
      refine kp 72 (.int IntKind.i64 (Gr.total g)) ?_
      refine kp 73 (.bool (decide (IntKind.wrap .i64 (Gr.at' g + (↑(ByteArray.size (Gr.data g)) : Int)) < Gr.total g))) ?_
      refine kp 74 (.bool (Gr.more g == decide (IntKind.wrap .i64 (Gr.at' g + (↑(ByteArray.size (Gr.data g)) : Int)) < Gr.total g))) ?_
      refine kp 2 (.bool (Gr.more g == decide (IntKind.wrap .i64 (Gr.at' g + (↑(ByteArray.size (Gr.data g)) : Int)) < Gr.total g))) ?_
      refine WpOps.nil (thenK_at (Wp.ret ?_))
      refine endK_retn [Value.bool (Gr.more g == decide (IntKind.wrap IntKind.i64 (Gr.at' g + (↑(ByteArray.size (Gr.data g)) : Int)) < Gr.total g))] (Value.bool (Gr.more g == decide (IntKind.wrap IntKind.i64 (Gr.at' g + (↑(ByteArray.size (Gr.data g)) : Int)) < Gr.total g))) (by kernel_rfl) (by kernel_rfl) ?_
      rw [hb62, hb51, chain3] at hd
      rw [okG_3 (by rwa [Bool.not_eq_false'] at hc) (by rwa [Bool.not_eq_false'] at hd)]
      rfl
end Go.Proofs.Ytpkkcpglbjbgfaa.D
