/- The document's Cut, and the comparison. -/
import Derived.Test.YtpkkcpglbjbgfaaFwLem
import Derived.Test.YtpkkcpglbjbgfaaFwCons
import Derived.Test.YtpkkcpglbjbgfaaF14d
namespace Go.Proofs.Ytpkkcpglbjbgfaa.D
open Go.Fw Go.RowKit

theorem f23 : E.funcs 23 = some Try.f23 := by kernel_rfl
theorem f16 : E.funcs 16 = some Try.f16 := by kernel_rfl
theorem f77 : E.funcs 77 = some Try.f77 := by kernel_rfl
theorem f47 : E.funcs 47 = some Try.f47 := by kernel_rfl
theorem f15 : E.funcs 15 = some Try.f15 := by kernel_rfl

theorem chain4 (a b c d e : Bool) : cond (cond (cond (cond (!a) true (!b)) true (!c)) true (!d)) true (!e) = !(a && b && c && d && e) := by
  cases a <;> cases b <;> cases c <;> cases d <;> cases e <;> rfl
theorem okR_1 {g : Gr} (h : (isAddr g.fr && isAddr g.to && inR g.number 0 65535 && inR g.life 0 60 && inR g.report 0 4) = false) : okG g = false := okG_1 (by rw [h]; rfl)
theorem okR_3 {g : Gr} (h1 : (isAddr g.fr && isAddr g.to && inR g.number 0 65535 && inR g.life 0 60 && inR g.report 0 4) = true) (h2 : (inR g.total 0 4000 && inR g.at' 0 g.total && !decide ((g.data.size : Int) > IntKind.i64.wrap (g.total - g.at'))) = true) :
    okG g = cond (g.more == decide (IntKind.i64.wrap (g.at' + g.data.size) < g.total)) (cond (g.report == 0) true (!g.wants)) false := by
  have hr : (g.report == 0) = !decide (g.report > 0) := by
    simp only [Bool.and_eq_true] at h1
    have := h1.2
    simp only [inR, Bool.cond_false_right, Bool.and_eq_true, decide_eq_true_eq] at this
    rw [← decide_not, Bool.beq_eq_decide_eq]
    exact decide_eq_decide.2 (by omega)
  rw [hr]
  cases hw : (!(decide (g.report > 0) && g.wants)) with
  | true =>
    rw [okG_3 (by rw [h1, hw]; rfl) h2]
    revert hw
    cases decide (g.report > 0) <;> cases g.wants <;> simp
  | false =>
    rw [okG_1 (by rw [hw, Bool.and_false])]
    revert hw
    cases decide (g.report > 0) <;> cases g.wants <;> simp
theorem valid23 (g : Gr) : Fun E 23 [gv g] (.bool (okG g)) := by
  refine Fun.of f23 rfl (of_decide_eq_true (by kernel_rfl)) rfl ?_
  have v1 := valid55 g.fx g.fr
  have v2 := valid55 g.tx g.to
  have i1 := in46
  refine Wp.seq (Wp.text ?_)
  refine md 1 (.pointer (some ⟨0, 0, none⟩)) (Blk.mk 32 true (gc g)) ?_
  refine kp 2 (.bool false) ?_
  refine WpOps.nil (thenK_at (Wp.seq (Wp.seq (Wp.text ?_))))
  refine kp 3 (.pointer (some ⟨0, 0, none⟩)) ?_
  refine kp 4 (.iface 3 (Value.iface (List.length (Gr.fr g)) (Value.iface (Gr.fx g) (Value.agg (List.toArray (List.map (fun n => Value.int .i64 n) (Gr.fr g))))))) ?_
  refine fr 5 55 [Value.iface 3 (Value.iface (List.length (Gr.fr g)) (Value.iface (Gr.fx g) (Value.agg (List.toArray (List.map (fun n => Value.int .i64 n) (Gr.fr g))))))] ?_
  refine WpFun.of (v1) ?_
  refine kp 6 (.bool !isAddr (Gr.fr g)) ?_
  refine kp 7 (.bool !isAddr (Gr.fr g)) ?_
  refine WpOps.fork 5 (!isAddr (Gr.fr g)) [8, 9, 10, 11, 12] 12 (true) (!isAddr (Gr.to g)) (by kernel_rfl) (fun g12 => ?_) (fun g12 => ?_) (fun f_12 b12 hb12 => ?_)
  · refine um 8 ?_ (hw := wants_tf g12)
    refine um 9 ?_ (hw := wants_tf g12)
    refine um 10 ?_ (hw := wants_tf g12)
    refine um 11 ?_ (hw := wants_tf g12)
    refine kp 12 (.bool true) ?_ (hop := fun _ => o_pickT g12)
    refine WpOps.nil ?_
    exact ⟨rfl, (.upd rfl (.upd rfl (.upd rfl (.upd rfl (.upd rfl .refl))))), (by kernel_rfl)⟩
  · refine kp 8 (.pointer (some ⟨0, 1, none⟩)) ?_ (hw := wants_ff g12)
    refine kp 9 (.iface 3 (Value.iface (List.length (Gr.to g)) (Value.iface (Gr.tx g) (Value.agg (List.toArray (List.map (fun n => Value.int .i64 n) (Gr.to g))))))) ?_ (hw := wants_ff g12)
    refine fr 10 55 [Value.iface 3 (Value.iface (List.length (Gr.to g)) (Value.iface (Gr.tx g) (Value.agg (List.toArray (List.map (fun n => Value.int .i64 n) (Gr.to g))))))] ?_ (hw := wants_ff g12)
    refine WpFun.of (v2) ?_
    refine kp 11 (.bool !isAddr (Gr.to g)) ?_ (hw := wants_ff g12)
    refine kp 12 (.bool !isAddr (Gr.to g)) ?_ (hop := fun _ => o_pickF g12)
    refine WpOps.nil ?_
    exact ⟨rfl, (.upd rfl (.upd rfl (.upd rfl (.upd rfl (.upd rfl .refl))))), (by kernel_rfl)⟩
  refine kp 13 (.bool b12) ?_
  refine WpOps.fork 5 (b12) [14, 15, 16, 17, 18] 18 (true) (!inR (Gr.number g) 0 65535) (by kernel_rfl) (fun g18 => ?_) (fun g18 => ?_) (fun f_18 b18 hb18 => ?_)
  · refine um 14 ?_ (hw := wants_tf g18)
    refine um 15 ?_ (hw := wants_tf g18)
    refine um 16 ?_ (hw := wants_tf g18)
    refine um 17 ?_ (hw := wants_tf g18)
    refine kp 18 (.bool true) ?_ (hop := fun _ => o_pickT g18)
    refine WpOps.nil ?_
    exact ⟨rfl, (.upd rfl (.upd rfl (.upd rfl (.upd rfl (.upd rfl .refl))))), (by kernel_rfl)⟩
  · refine kp 14 (.pointer (some ⟨0, 2, none⟩)) ?_ (hw := wants_ff g18)
    refine kp 15 (.int IntKind.i64 (Gr.number g)) ?_ (hw := wants_ff g18)
    refine fr 16 46 [Value.int .i64 (Gr.number g), Value.int .i64 0, Value.int .i64 65535] ?_ (hw := wants_ff g18)
    refine WpFun.of (i1 _ _ _) ?_
    refine kp 17 (.bool !inR (Gr.number g) 0 65535) ?_ (hw := wants_ff g18)
    refine kp 18 (.bool !inR (Gr.number g) 0 65535) ?_ (hop := fun _ => o_pickF g18)
    refine WpOps.nil ?_
    exact ⟨rfl, (.upd rfl (.upd rfl (.upd rfl (.upd rfl (.upd rfl .refl))))), (by kernel_rfl)⟩
  refine kp 19 (.bool b18) ?_
  refine WpOps.fork 5 (b18) [20, 21, 22, 23, 24] 24 (true) (!inR (Gr.life g) 0 60) (by kernel_rfl) (fun g24 => ?_) (fun g24 => ?_) (fun f_24 b24 hb24 => ?_)
  · refine um 20 ?_ (hw := wants_tf g24)
    refine um 21 ?_ (hw := wants_tf g24)
    refine um 22 ?_ (hw := wants_tf g24)
    refine um 23 ?_ (hw := wants_tf g24)
    refine kp 24 (.bool true) ?_ (hop := fun _ => o_pickT g24)
    refine WpOps.nil ?_
    exact ⟨rfl, (.upd rfl (.upd rfl (.upd rfl (.upd rfl (.upd rfl .refl))))), (by kernel_rfl)⟩
  · refine kp 20 (.pointer (some ⟨0, 3, none⟩)) ?_ (hw := wants_ff g24)
    refine kp 21 (.int IntKind.i64 (Gr.life g)) ?_ (hw := wants_ff g24)
    refine fr 22 46 [Value.int .i64 (Gr.life g), Value.int .i64 0, Value.int .i64 60] ?_ (hw := wants_ff g24)
    refine WpFun.of (i1 _ _ _) ?_
    refine kp 23 (.bool !inR (Gr.life g) 0 60) ?_ (hw := wants_ff g24)
    refine kp 24 (.bool !inR (Gr.life g) 0 60) ?_ (hop := fun _ => o_pickF g24)
    refine WpOps.nil ?_
    exact ⟨rfl, (.upd rfl (.upd rfl (.upd rfl (.upd rfl (.upd rfl .refl))))), (by kernel_rfl)⟩
  refine kp 25 (.bool b24) ?_
  refine WpOps.fork 5 (b24) [26, 27, 28, 29, 30] 30 (true) (!inR (Gr.report g) 0 4) (by kernel_rfl) (fun g30 => ?_) (fun g30 => ?_) (fun f_30 b30 hb30 => ?_)
  · refine um 26 ?_ (hw := wants_tf g30)
    refine um 27 ?_ (hw := wants_tf g30)
    refine um 28 ?_ (hw := wants_tf g30)
    refine um 29 ?_ (hw := wants_tf g30)
    refine kp 30 (.bool true) ?_ (hop := fun _ => o_pickT g30)
    refine WpOps.nil ?_
    exact ⟨rfl, (.upd rfl (.upd rfl (.upd rfl (.upd rfl (.upd rfl .refl))))), (by kernel_rfl)⟩
  · refine kp 26 (.pointer (some ⟨0, 6, none⟩)) ?_ (hw := wants_ff g30)
    refine kp 27 (.int IntKind.i64 (Gr.report g)) ?_ (hw := wants_ff g30)
    refine fr 28 46 [Value.int .i64 (Gr.report g), Value.int .i64 0, Value.int .i64 4] ?_ (hw := wants_ff g30)
    refine WpFun.of (i1 _ _ _) ?_
    refine kp 29 (.bool !inR (Gr.report g) 0 4) ?_ (hw := wants_ff g30)
    refine kp 30 (.bool !inR (Gr.report g) 0 4) ?_ (hop := fun _ => o_pickF g30)
    refine WpOps.nil ?_
    exact ⟨rfl, (.upd rfl (.upd rfl (.upd rfl (.upd rfl (.upd rfl .refl))))), (by kernel_rfl)⟩
  refine WpOps.nil (thenK_at ?_)
  refine Wp.split (b30) (by kernel_rfl) (fun hc => ?_) (fun hc => ?_)
  · refine Wp.seq (Wp.text ?_)
    refine kp 2 (.bool false) ?_
    refine WpOps.nil (thenK_at (Wp.ret (thenK_ret ?_)))
    refine endK_retn [Value.bool false] (Value.bool false) (by kernel_rfl) (by kernel_rfl) ?_
    rw [hb30, hb24, hb18, hb12, chain4] at hc
    rw [okR_1 (by rwa [Bool.not_eq_true'] at hc)]
    rfl
  · refine Wp.skip (thenK_at (Wp.seq (Wp.seq (Wp.text ?_))))
    refine kp 31 (.pointer (some ⟨0, 5, none⟩)) ?_
    refine kp 32 (.int IntKind.i64 (Gr.total g)) ?_
    refine fr 33 46 [Value.int .i64 (Gr.total g), Value.int .i64 0, Value.int .i64 4000] ?_
    refine WpFun.of (i1 _ _ _) ?_
    refine kp 34 (.bool !inR (Gr.total g) 0 4000) ?_
    refine kp 35 (.bool !inR (Gr.total g) 0 4000) ?_
    refine WpOps.fork 7 (!inR (Gr.total g) 0 4000) [36, 37, 38, 39, 40, 41, 42] 42 (true) (!inR (Gr.at' g) 0 (Gr.total g)) (by kernel_rfl) (fun g42 => ?_) (fun g42 => ?_) (fun f_42 b42 hb42 => ?_)
    · refine um 36 ?_ (hw := wants_tf g42)
      refine um 37 ?_ (hw := wants_tf g42)
      refine um 38 ?_ (hw := wants_tf g42)
      refine um 39 ?_ (hw := wants_tf g42)
      refine um 40 ?_ (hw := wants_tf g42)
      refine um 41 ?_ (hw := wants_tf g42)
      refine kp 42 (.bool true) ?_ (hop := fun _ => o_pickT g42)
      refine WpOps.nil ?_
      exact ⟨rfl, (.upd rfl (.upd rfl (.upd rfl (.upd rfl (.upd rfl (.upd rfl (.upd rfl .refl))))))), (by kernel_rfl)⟩
    · refine kp 36 (.pointer (some ⟨0, 4, none⟩)) ?_ (hw := wants_ff g42)
      refine kp 37 (.int IntKind.i64 (Gr.at' g)) ?_ (hw := wants_ff g42)
      refine kp 38 (.pointer (some ⟨0, 5, none⟩)) ?_ (hw := wants_ff g42)
      refine kp 39 (.int IntKind.i64 (Gr.total g)) ?_ (hw := wants_ff g42)
      refine fr 40 46 [Value.int .i64 (Gr.at' g), Value.int .i64 0, Value.int .i64 (Gr.total g)] ?_ (hw := wants_ff g42)
      refine WpFun.of (i1 _ _ _) ?_
      refine kp 41 (.bool !inR (Gr.at' g) 0 (Gr.total g)) ?_ (hw := wants_ff g42)
      refine kp 42 (.bool !inR (Gr.at' g) 0 (Gr.total g)) ?_ (hop := fun _ => o_pickF g42)
      refine WpOps.nil ?_
      exact ⟨rfl, (.upd rfl (.upd rfl (.upd rfl (.upd rfl (.upd rfl (.upd rfl (.upd rfl .refl))))))), (by kernel_rfl)⟩
    refine kp 43 (.bool b42) ?_
    refine WpOps.fork 10 (b42) [44, 45, 46, 47, 48, 49, 50, 51, 52, 53] 53 (true) (decide ((↑(ByteArray.size (Gr.data g)) : Int) > IntKind.wrap IntKind.i64 (Gr.total g - Gr.at' g))) (by kernel_rfl) (fun g53 => ?_) (fun g53 => ?_) (fun f_53 b53 hb53 => ?_)
    · refine um 44 ?_ (hw := wants_tf g53)
      refine um 45 ?_ (hw := wants_tf g53)
      refine um 46 ?_ (hw := wants_tf g53)
      refine um 47 ?_ (hw := wants_tf g53)
      refine um 48 ?_ (hw := wants_tf g53)
      refine um 49 ?_ (hw := wants_tf g53)
      refine um 50 ?_ (hw := wants_tf g53)
      refine um 51 ?_ (hw := wants_tf g53)
      refine um 52 ?_ (hw := wants_tf g53)
      refine kp 53 (.bool true) ?_ (hop := fun _ => o_pickT g53)
      refine WpOps.nil ?_
      exact ⟨rfl, (.upd rfl (.upd rfl (.upd rfl (.upd rfl (.upd rfl (.upd rfl (.upd rfl (.upd rfl (.upd rfl (.upd rfl .refl)))))))))), (by kernel_rfl)⟩
    · refine kp 44 (.pointer (some ⟨0, 10, none⟩)) ?_ (hw := wants_ff g53)
      refine kp 45 (.string (Gr.data g)) ?_ (hw := wants_ff g53)
      refine kp 46 (.int IntKind.i64 (↑(ByteArray.size (Gr.data g)) : Int)) ?_ (hw := wants_ff g53)
      refine kp 47 (.pointer (some ⟨0, 5, none⟩)) ?_ (hw := wants_ff g53)
      refine kp 48 (.int IntKind.i64 (Gr.total g)) ?_ (hw := wants_ff g53)
      refine kp 49 (.pointer (some ⟨0, 4, none⟩)) ?_ (hw := wants_ff g53)
      refine kp 50 (.int IntKind.i64 (Gr.at' g)) ?_ (hw := wants_ff g53)
      refine kp 51 (.int IntKind.i64 (IntKind.wrap .i64 (Gr.total g - Gr.at' g))) ?_ (hw := wants_ff g53)
      refine kp 52 (.bool (decide ((↑(ByteArray.size (Gr.data g)) : Int) > IntKind.wrap .i64 (Gr.total g - Gr.at' g)))) ?_ (hw := wants_ff g53)
      refine kp 53 (.bool (decide ((↑(ByteArray.size (Gr.data g)) : Int) > IntKind.wrap .i64 (Gr.total g - Gr.at' g)))) ?_ (hop := fun _ => o_pickF g53)
      refine WpOps.nil ?_
      exact ⟨rfl, (.upd rfl (.upd rfl (.upd rfl (.upd rfl (.upd rfl (.upd rfl (.upd rfl (.upd rfl (.upd rfl (.upd rfl .refl)))))))))), (by kernel_rfl)⟩
    refine WpOps.nil (thenK_at ?_)
    rw [hb30, hb24, hb18, hb12, chain4] at hc
    refine Wp.split (b53) (by kernel_rfl) (fun hd => ?_) (fun hd => ?_)
    · refine Wp.seq (Wp.text ?_)
      refine kp 2 (.bool false) ?_
      refine WpOps.nil (thenK_at (Wp.ret (thenK_ret ?_)))
      refine endK_retn [Value.bool false] (Value.bool false) (by kernel_rfl) (by kernel_rfl) ?_
      rw [hb53, hb42, chain3] at hd
      rw [okG_2 (by rwa [Bool.not_eq_true'] at hd)]
      rfl
    · refine Wp.skip (thenK_at (Wp.seq (Wp.text ?_)))
      refine kp 54 (.pointer (some ⟨0, 7, none⟩)) ?_
      refine kp 55 (.bool (Gr.more g)) ?_
      refine kp 56 (.pointer (some ⟨0, 4, none⟩)) ?_
      refine kp 57 (.int IntKind.i64 (Gr.at' g)) ?_
      refine kp 58 (.pointer (some ⟨0, 10, none⟩)) ?_
      refine kp 59 (.string (Gr.data g)) ?_
      refine kp 60 (.int IntKind.i64 (↑(ByteArray.size (Gr.data g)) : Int)) ?_
      refine kp 61 (.int IntKind.i64 (IntKind.wrap .i64 (Gr.at' g + (↑(ByteArray.size (Gr.data g)) : Int)))) ?_
      refine kp 62 (.pointer (some ⟨0, 5, none⟩)) ?_
      refine kp 63 (.int IntKind.i64 (Gr.total g)) ?_
      refine kp 64 (.bool (decide (IntKind.wrap .i64 (Gr.at' g + (↑(ByteArray.size (Gr.data g)) : Int)) < Gr.total g))) ?_
      refine kp 65 (.bool (Gr.more g == decide (IntKind.wrap .i64 (Gr.at' g + (↑(ByteArray.size (Gr.data g)) : Int)) < Gr.total g))) ?_
      refine kp 66 (.bool (Gr.more g == decide (IntKind.wrap .i64 (Gr.at' g + (↑(ByteArray.size (Gr.data g)) : Int)) < Gr.total g))) ?_
      refine WpOps.fork 9 (Gr.more g == decide (IntKind.wrap IntKind.i64 (Gr.at' g + (↑(ByteArray.size (Gr.data g)) : Int)) < Gr.total g)) [67, 68, 69, 70, 71, 72, 73, 74, 75] 75 (bif Gr.report g == 0 then true else !Gr.wants g) (false) (by kernel_rfl) (fun g75 => ?_) (fun g75 => ?_) (fun f_75 b75 hb75 => ?_)
      · refine kp 67 (.pointer (some ⟨0, 6, none⟩)) ?_ (hw := wants_tt g75)
        refine kp 68 (.int IntKind.i64 (Gr.report g)) ?_ (hw := wants_tt g75)
        refine kp 69 (.bool (Gr.report g == 0)) ?_ (hw := wants_tt g75)
        refine kp 70 (.bool (Gr.report g == 0)) ?_ (hw := wants_tt g75)
        refine WpOps.forkE 5 (Gr.report g == 0) [71, 72, 73, 74, 75] 75 (true) (!Gr.wants g) (by kernel_rfl) (fun g75' => ?_) (fun g75' => ?_) (fun f_75 => ?_)
        · refine um 71 ?_ (hw := wants_tf g75')
          refine um 72 ?_ (hw := wants_tf g75')
          refine um 73 ?_ (hw := wants_tf g75')
          refine kp 74 (.bool true) ?_ (hw := wants_tt g75) (hop := fun _ => o_pickT g75')
          refine kp 75 (.bool true) ?_ (hop := fun _ => o_pickT g75)
          refine WpOps.nil ?_
          exact ⟨rfl, (.upd rfl (.upd rfl (.upd rfl (.upd rfl (.upd rfl .refl))))), (by kernel_rfl)⟩
        · refine kp 71 (.pointer (some ⟨0, 9, none⟩)) ?_ (hw := wants_ff g75')
          refine kp 72 (.bool (Gr.wants g)) ?_ (hw := wants_ff g75')
          refine kp 73 (.bool !Gr.wants g) ?_ (hw := wants_ff g75')
          refine kp 74 (.bool !Gr.wants g) ?_ (hw := wants_tt g75) (hop := fun _ => o_pickF g75')
          refine kp 75 (.bool !Gr.wants g) ?_ (hop := fun _ => o_pickT g75)
          refine WpOps.nil ?_
          exact ⟨rfl, (.upd rfl (.upd rfl (.upd rfl (.upd rfl (.upd rfl .refl))))), (by kernel_rfl)⟩
        refine WpOps.nil ?_
        exact ⟨rfl, (.upd rfl (.mix rfl (.upd rfl (.upd rfl (.upd rfl (.upd rfl .refl)))))), (by kernel_rfl)⟩
      · refine um 67 ?_ (hw := wants_ft g75)
        refine um 68 ?_ (hw := wants_ft g75)
        refine um 69 ?_ (hw := wants_ft g75)
        refine um 70 ?_ (hw := wants_ft g75)
        refine um 71 ?_
        refine um 72 ?_
        refine um 73 ?_
        refine um 74 ?_ (hw := wants_ft g75)
        refine kp 75 (.bool false) ?_ (hop := fun _ => o_pickF g75)
        refine WpOps.nil ?_
        exact ⟨rfl, (.upd rfl (.upd rfl (.upd rfl (.upd rfl (.upd rfl (.upd rfl (.upd rfl (.upd rfl (.upd rfl .refl))))))))), (by kernel_rfl)⟩
      refine kp 2 (.bool b75) ?_
      refine WpOps.nil (thenK_at (Wp.ret ?_))
      refine endK_retn [Value.bool b75] (Value.bool b75) (by kernel_rfl) (by kernel_rfl) ?_
      rw [hb53, hb42, chain3] at hd
      rw [okR_3 (by rwa [Bool.not_eq_false'] at hc) (by rwa [Bool.not_eq_false'] at hd), hb75]
      rfl

/-- A datagram of the reference. -/
def toR (g : Gr) : Gr := { g with fx := 0, tx := 0 }
theorem To16 (g : Gr) (ok : OkGr g) : Fun E 16 [gv g] (gv (toR g)) := by
  refine Fun.of f16 rfl (of_decide_eq_true (by kernel_rfl)) (by kernel_rfl) ?_
  have c1 := copy31 g.fx g.fr ok.fl
  have c2 := copy31 g.tx g.to ok.tl
  refine Wp.seq (Wp.text ?_)
  refine md 1 (.pointer (some ⟨0, 0, none⟩)) (Blk.mk 24 true (gc g)) ?_
  refine md 2 (.pointer (some ⟨1, 0, none⟩)) (Blk.mk 32 true [Value.slice none 0 0, Value.slice none 0 0, Value.int .i64 0, Value.int .i64 0, Value.int .i64 0, Value.int .i64 0, Value.int .i64 0, Value.bool false, Value.bool false, Value.bool false, Value.string (ByteArray.mk #[])]) ?_
  refine WpOps.nil (thenK_at (Wp.seq ?_))
  refine Wp.region (by kernel_rfl) ?_
  refine kp 3 (.pointer (some ⟨0, 0, none⟩)) ?_
  refine kp 4 (.iface 3 (Value.iface (List.length (Gr.fr g)) (Value.iface (Gr.fx g) (Value.agg (List.toArray (List.map (fun n => Value.int .i64 n) (Gr.fr g))))))) ?_
  refine clr 5 31 [Value.iface 3 (Value.iface (List.length (Gr.fr g)) (Value.iface (Gr.fx g) (Value.agg (List.toArray (List.map (fun n => Value.int .i64 n) (Gr.fr g))))))] ?_
  refine WpCall.consume [0, 1] (c1) (by kernel_rfl) (by kernel_rfl) ?_
  refine kp 6 (.pointer (some ⟨0, 1, none⟩)) ?_
  refine kp 7 (.iface 3 (Value.iface (List.length (Gr.to g)) (Value.iface (Gr.tx g) (Value.agg (List.toArray (List.map (fun n => Value.int .i64 n) (Gr.to g))))))) ?_
  refine clr 8 31 [Value.iface 3 (Value.iface (List.length (Gr.to g)) (Value.iface (Gr.tx g) (Value.agg (List.toArray (List.map (fun n => Value.int .i64 n) (Gr.to g))))))] ?_
  refine WpCall.consume [0, 1] (c2) (by kernel_rfl) (by kernel_rfl) ?_
  refine kp 9 (.pointer (some ⟨0, 2, none⟩)) ?_
  refine kp 10 (.int IntKind.i64 (Gr.number g)) ?_
  refine kp 11 (.pointer (some ⟨0, 3, none⟩)) ?_
  refine kp 12 (.int IntKind.i64 (Gr.life g)) ?_
  refine kp 13 (.pointer (some ⟨0, 4, none⟩)) ?_
  refine kp 14 (.int IntKind.i64 (Gr.at' g)) ?_
  refine kp 15 (.pointer (some ⟨0, 5, none⟩)) ?_
  refine kp 16 (.int IntKind.i64 (Gr.total g)) ?_
  refine kp 17 (.pointer (some ⟨0, 6, none⟩)) ?_
  refine kp 18 (.int IntKind.i64 (Gr.report g)) ?_
  refine kp 19 (.pointer (some ⟨0, 7, none⟩)) ?_
  refine kp 20 (.bool (Gr.more g)) ?_
  refine kp 21 (.pointer (some ⟨0, 8, none⟩)) ?_
  refine kp 22 (.bool (Gr.may g)) ?_
  refine kp 23 (.pointer (some ⟨0, 9, none⟩)) ?_
  refine kp 24 (.bool (Gr.wants g)) ?_
  refine kp 25 (.pointer (some ⟨0, 10, none⟩)) ?_
  refine kp 26 (.string (Gr.data g)) ?_
  refine kp 27 (.agg #[Value.iface 3 (Value.iface (List.length (Gr.fr g)) (Value.iface 0 (Value.agg (List.toArray (List.map (fun n => Value.int .i64 n) (Gr.fr g)))))), Value.iface 3 (Value.iface (List.length (Gr.to g)) (Value.iface 0 (Value.agg (List.toArray (List.map (fun n => Value.int .i64 n) (Gr.to g)))))), Value.int .i64 (Gr.number g), Value.int .i64 (Gr.life g), Value.int .i64 (Gr.at' g), Value.int .i64 (Gr.total g), Value.int .i64 (Gr.report g), Value.bool (Gr.more g), Value.bool (Gr.may g), Value.bool (Gr.wants g), Value.string (Gr.data g)]) ?_
  refine ld (.tuple #[]) (1) (Blk.mk 32 true [Value.iface 3 (Value.iface (List.length (Gr.fr g)) (Value.iface 0 (Value.agg (List.toArray (List.map (fun n => Value.int .i64 n) (Gr.fr g)))))), Value.iface 3 (Value.iface (List.length (Gr.to g)) (Value.iface 0 (Value.agg (List.toArray (List.map (fun n => Value.int .i64 n) (Gr.to g)))))), Value.int .i64 (Gr.number g), Value.int .i64 (Gr.life g), Value.int .i64 (Gr.at' g), Value.int .i64 (Gr.total g), Value.int .i64 (Gr.report g), Value.bool (Gr.more g), Value.bool (Gr.may g), Value.bool (Gr.wants g), Value.string (Gr.data g)]) ?_
  refine WpOps.nil (thenK_at (Wp.ret ?_))
  refine endK_retn [Value.agg #[Value.iface 3 (Value.iface (List.length (Gr.fr g)) (Value.iface 0 (Value.agg (List.toArray (List.map (fun n => Value.int IntKind.i64 n) (Gr.fr g)))))), Value.iface 3 (Value.iface (List.length (Gr.to g)) (Value.iface 0 (Value.agg (List.toArray (List.map (fun n => Value.int IntKind.i64 n) (Gr.to g)))))), Value.int IntKind.i64 (Gr.number g), Value.int IntKind.i64 (Gr.life g), Value.int IntKind.i64 (Gr.at' g), Value.int IntKind.i64 (Gr.total g), Value.int IntKind.i64 (Gr.report g), Value.bool (Gr.more g), Value.bool (Gr.may g), Value.bool (Gr.wants g), Value.string (Gr.data g)]] (Value.agg #[Value.iface 3 (Value.iface (List.length (Gr.fr g)) (Value.iface 0 (Value.agg (List.toArray (List.map (fun n => Value.int IntKind.i64 n) (Gr.fr g)))))), Value.iface 3 (Value.iface (List.length (Gr.to g)) (Value.iface 0 (Value.agg (List.toArray (List.map (fun n => Value.int IntKind.i64 n) (Gr.to g)))))), Value.int IntKind.i64 (Gr.number g), Value.int IntKind.i64 (Gr.life g), Value.int IntKind.i64 (Gr.at' g), Value.int IntKind.i64 (Gr.total g), Value.int IntKind.i64 (Gr.report g), Value.bool (Gr.more g), Value.bool (Gr.may g), Value.bool (Gr.wants g), Value.string (Gr.data g)]) (by kernel_rfl) (by kernel_rfl) ?_
  kernel_rfl
theorem own77 (g : Gr) (ok : OkGr g) : Fun E 77 [gv g] (gv (toR g)) := by
  refine Fun.of f77 rfl (of_decide_eq_true (by kernel_rfl)) (by kernel_rfl) ?_
  have c1 := copy31 g.fx g.fr ok.fl
  have c2 := copy31 g.tx g.to ok.tl
  refine Wp.seq (Wp.text ?_)
  refine md 1 (.pointer (some ⟨0, 0, none⟩)) (Blk.mk 32 true (gc g)) ?_
  refine md 2 (.pointer (some ⟨1, 0, none⟩)) (Blk.mk 32 true [Value.slice none 0 0, Value.slice none 0 0, Value.int .i64 0, Value.int .i64 0, Value.int .i64 0, Value.int .i64 0, Value.int .i64 0, Value.bool false, Value.bool false, Value.bool false, Value.string (ByteArray.mk #[])]) ?_
  refine WpOps.nil (thenK_at (Wp.seq (Wp.text ?_)))
  refine kp 3 (.pointer (some ⟨0, 0, none⟩)) ?_
  refine kp 4 (.iface 3 (Value.iface (List.length (Gr.fr g)) (Value.iface (Gr.fx g) (Value.agg (List.toArray (List.map (fun n => Value.int .i64 n) (Gr.fr g))))))) ?_
  refine cl 5 31 [Value.iface 3 (Value.iface (List.length (Gr.fr g)) (Value.iface (Gr.fx g) (Value.agg (List.toArray (List.map (fun n => Value.int .i64 n) (Gr.fr g))))))] ?_
  refine WpCall.consume [0, 1] (c1) (by kernel_rfl) (by kernel_rfl) ?_
  refine kp 6 (.pointer (some ⟨0, 0, none⟩)) ?_
  refine ld (.tuple #[]) (0) (Blk.mk 32 true [Value.iface 3 (Value.iface (List.length (Gr.fr g)) (Value.iface 0 (Value.agg (List.toArray (List.map (fun n => Value.int .i64 n) (Gr.fr g)))))), Value.iface 3 (Value.iface (List.length (Gr.to g)) (Value.iface (Gr.tx g) (Value.agg (List.toArray (List.map (fun n => Value.int .i64 n) (Gr.to g)))))), Value.int .i64 (Gr.number g), Value.int .i64 (Gr.life g), Value.int .i64 (Gr.at' g), Value.int .i64 (Gr.total g), Value.int .i64 (Gr.report g), Value.bool (Gr.more g), Value.bool (Gr.may g), Value.bool (Gr.wants g), Value.string (Gr.data g)]) ?_
  refine WpOps.nil (thenK_at (Wp.seq (Wp.text ?_)))
  refine kp 7 (.pointer (some ⟨0, 1, none⟩)) ?_
  refine kp 8 (.iface 3 (Value.iface (List.length (Gr.to g)) (Value.iface (Gr.tx g) (Value.agg (List.toArray (List.map (fun n => Value.int .i64 n) (Gr.to g))))))) ?_
  refine cl 9 31 [Value.iface 3 (Value.iface (List.length (Gr.to g)) (Value.iface (Gr.tx g) (Value.agg (List.toArray (List.map (fun n => Value.int .i64 n) (Gr.to g))))))] ?_
  refine WpCall.consume [0, 1] (c2) (by kernel_rfl) (by kernel_rfl) ?_
  refine kp 10 (.pointer (some ⟨0, 1, none⟩)) ?_
  refine ld (.tuple #[]) (0) (Blk.mk 32 true [Value.iface 3 (Value.iface (List.length (Gr.fr g)) (Value.iface 0 (Value.agg (List.toArray (List.map (fun n => Value.int .i64 n) (Gr.fr g)))))), Value.iface 3 (Value.iface (List.length (Gr.to g)) (Value.iface 0 (Value.agg (List.toArray (List.map (fun n => Value.int .i64 n) (Gr.to g)))))), Value.int .i64 (Gr.number g), Value.int .i64 (Gr.life g), Value.int .i64 (Gr.at' g), Value.int .i64 (Gr.total g), Value.int .i64 (Gr.report g), Value.bool (Gr.more g), Value.bool (Gr.may g), Value.bool (Gr.wants g), Value.string (Gr.data g)]) ?_
  refine WpOps.nil (thenK_at (Wp.seq (Wp.text ?_)))
  refine kp 11 (.agg #[Value.iface 3 (Value.iface (List.length (Gr.fr g)) (Value.iface 0 (Value.agg (List.toArray (List.map (fun n => Value.int .i64 n) (Gr.fr g)))))), Value.iface 3 (Value.iface (List.length (Gr.to g)) (Value.iface 0 (Value.agg (List.toArray (List.map (fun n => Value.int .i64 n) (Gr.to g)))))), Value.int .i64 (Gr.number g), Value.int .i64 (Gr.life g), Value.int .i64 (Gr.at' g), Value.int .i64 (Gr.total g), Value.int .i64 (Gr.report g), Value.bool (Gr.more g), Value.bool (Gr.may g), Value.bool (Gr.wants g), Value.string (Gr.data g)]) ?_
  refine ld (.tuple #[]) (1) (Blk.mk 32 true [Value.iface 3 (Value.iface (List.length (Gr.fr g)) (Value.iface 0 (Value.agg (List.toArray (List.map (fun n => Value.int .i64 n) (Gr.fr g)))))), Value.iface 3 (Value.iface (List.length (Gr.to g)) (Value.iface 0 (Value.agg (List.toArray (List.map (fun n => Value.int .i64 n) (Gr.to g)))))), Value.int .i64 (Gr.number g), Value.int .i64 (Gr.life g), Value.int .i64 (Gr.at' g), Value.int .i64 (Gr.total g), Value.int .i64 (Gr.report g), Value.bool (Gr.more g), Value.bool (Gr.may g), Value.bool (Gr.wants g), Value.string (Gr.data g)]) ?_
  refine WpOps.nil (thenK_at (Wp.ret ?_))
  refine endK_retn [Value.agg #[Value.iface 3 (Value.iface (List.length (Gr.fr g)) (Value.iface 0 (Value.agg (List.toArray (List.map (fun n => Value.int IntKind.i64 n) (Gr.fr g)))))), Value.iface 3 (Value.iface (List.length (Gr.to g)) (Value.iface 0 (Value.agg (List.toArray (List.map (fun n => Value.int IntKind.i64 n) (Gr.to g)))))), Value.int IntKind.i64 (Gr.number g), Value.int IntKind.i64 (Gr.life g), Value.int IntKind.i64 (Gr.at' g), Value.int IntKind.i64 (Gr.total g), Value.int IntKind.i64 (Gr.report g), Value.bool (Gr.more g), Value.bool (Gr.may g), Value.bool (Gr.wants g), Value.string (Gr.data g)]] (Value.agg #[Value.iface 3 (Value.iface (List.length (Gr.fr g)) (Value.iface 0 (Value.agg (List.toArray (List.map (fun n => Value.int IntKind.i64 n) (Gr.fr g)))))), Value.iface 3 (Value.iface (List.length (Gr.to g)) (Value.iface 0 (Value.agg (List.toArray (List.map (fun n => Value.int IntKind.i64 n) (Gr.to g)))))), Value.int IntKind.i64 (Gr.number g), Value.int IntKind.i64 (Gr.life g), Value.int IntKind.i64 (Gr.at' g), Value.int IntKind.i64 (Gr.total g), Value.int IntKind.i64 (Gr.report g), Value.bool (Gr.more g), Value.bool (Gr.may g), Value.bool (Gr.wants g), Value.string (Gr.data g)]) (by kernel_rfl) (by kernel_rfl) ?_
  kernel_rfl
end Go.Proofs.Ytpkkcpglbjbgfaa.D
