/- The law DatagramReports. -/
import Derived.Test.YtpkkcpglbjbgfaaFwLem
import Derived.Test.YtpkkcpglbjbgfaaG14e
namespace Go.Proofs.Ytpkkcpglbjbgfaa.D
open Go.Fw Go.RowKit

/-- A case. -/
def fcV (x xt xl : Nat) (me : List Int) (l : List En) (ls : List Ln) (g : Gr) : Value := .agg ([sl x me, ents 98 xt l, lns 76 xl ls] ++ gc g).toArray
/-- What comes back. -/
theorem fw_back (x : Nat) (me : List Int) (l : List En) (ls : List Ln) (g : Gr) : ∃ out line back err, fwV (fwAll 24 x me l ls g) = .tuple #[out, .int .i64 line, back, .int .i64 err] ∧
    (((err != 0) = true ∧ back = nilV) ∨ (err = 0 ∧ back = nilV) ∨ (err = 0 ∧ okF me l ls g = true ∧ g.wants = true ∧ ∃ k : Int, 1 ≤ k ∧ k ≤ 3 ∧ back = grams 24 [rep x me g k])) := by
  refine ⟨(fwAll 24 x me l ls g).out, (fwAll 24 x me l ls g).line, (fwAll 24 x me l ls g).back, (fwAll 24 x me l ls g).err, rfl, ?_⟩
  have key : ∀ k : Int, 1 ≤ k → k ≤ 3 → okF me l ls g = true → ∀ g', g' = g ∨ g' = lifeDown g → (repV 24 x me g' k = nilV ∨ (okF me l ls g = true ∧ g.wants = true ∧ ∃ j : Int, 1 ≤ j ∧ j ≤ 3 ∧ repV 24 x me g' k = grams 24 [rep x me g j])) := by
    intro k h1 h2 ho g' hg
    unfold repV
    split
    · rename_i hw
      refine .inr ⟨ho, ?_, k, h1, h2, ?_⟩
      · rcases hg with rfl | rfl <;> exact hw
      · rcases hg with rfl | rfl <;> rfl
    · exact .inl rfl
  unfold fwAll
  split
  · rename_i ho
    unfold fwd
    split
    · rcases key 1 (by decide) (by decide) ho g (.inl rfl) with h | h
      · exact .inr (.inl ⟨rfl, h⟩)
      · exact .inr (.inr ⟨rfl, h⟩)
    · split
      · rcases key 2 (by decide) (by decide) ho g (.inl rfl) with h | h
        · exact .inr (.inl ⟨rfl, h⟩)
        · exact .inr (.inr ⟨rfl, h⟩)
      · split
        · exact .inl ⟨rfl, rfl⟩
        · split
          · rcases key 3 (by decide) (by decide) ho (lifeDown g) (.inr rfl) with h | h
            · exact .inr (.inl ⟨rfl, h⟩)
            · exact .inr (.inr ⟨rfl, h⟩)
          · exact .inr (.inl ⟨rfl, rfl⟩)
  · exact .inl ⟨rfl, rfl⟩
theorem rep_size (g : Gr) : (repD g).size ≤ 16 := by
  unfold repD min16
  rw [ByteArray.size_extract]
  split <;> omega
theorem rep_ok (x : Nat) (me : List Int) (l : List En) (ls : List Ln) (g : Gr) (k : Int) (h1 : 1 ≤ k) (h2 : k ≤ 3) (ho : okF me l ls g = true) : okG (rep x me g k) = true := by
  unfold okF at ho
  simp only [Bool.and_eq_true] at ho
  obtain ⟨⟨⟨hm, _⟩, hg⟩, _⟩ := ho
  have hs := rep_size g
  have hf : isAddr g.fr = true ∧ inR g.number 0 65535 = true := by
    unfold okG at hg
    simp only [Bool.and_eq_true] at hg
    exact ⟨hg.1.1.1.1.1.1.1.1.1, hg.1.1.1.1.1.1.1.2⟩
  have inr : ∀ a lo hi : Int, lo ≤ a → a ≤ hi → inR a lo hi = true := fun a lo hi ha hb => by
    unfold inR
    rw [decide_eq_true ha, decide_eq_true hb]
    rfl
  unfold okG rep
  dsimp only
  rw [hm, hf.1, hf.2, inr 60 0 60 (by decide) (by decide), inr k 0 4 (by omega) (by omega), inr _ 0 4000 (by omega) (by omega), inr 0 0 _ (by omega) (by omega), Int.sub_zero, wr _ (by omega) (by omega), Int.zero_add, wr _ (by omega) (by omega), decide_eq_true (show ((repD g).size : Int) ≤ (repD g).size from Int.le_refl _), decide_eq_false (show ¬ ((repD g).size : Int) < (repD g).size by omega)]
  simp
theorem wants_rep (g : Gr) (hg : okG g = true) (hw : g.wants = true) : g.report = 0 := by
  unfold okG at hg
  simp only [Bool.and_eq_true, Bool.not_eq_true', Bool.and_eq_false_iff, decide_eq_false_iff_not] at hg
  obtain ⟨⟨⟨⟨⟨⟨_, h5⟩, h6⟩, _⟩, _⟩, _⟩, _⟩ := hg
  unfold inR at h5
  rcases hx : decide (0 ≤ g.report) with _ | _
  · rw [hx] at h5; cases h5
  · have := of_decide_eq_true hx
    rcases h6 with h6 | h6
    · omega
    · rw [hw] at h6; cases h6
theorem f13 : E.funcs 13 = some Try.f13 := by kernel_rfl
section
variable (x xt xl : Nat) (me : List Int) (l : List En) (ls : List Ln) (g : Gr) (out : Value) (line : Int)
theorem law13_err (err : Int) (he : (err != 0) = true) (c : Fun E 36 [sl x me, ents 98 xt l, lns 76 xl ls, gv g] (.tuple #[out, .int .i64 line, nilV, .int .i64 err])) : Fun E 13 [fcV x xt xl me l ls g] (.bool true) := by
  refine Fun.of f13 rfl (of_decide_eq_true (by kernel_rfl)) rfl ?_
  have c1 := sane19
  refine Wp.seq ?_
  refine Wp.text ?_
  refine WpOps.made 1 (Value.pointer (some (Addr.mk 0 0 none))) (Blk.mk 73 true [Value.iface 3 (Value.iface (List.length me) (Value.iface x (Value.agg (List.toArray (List.map (fun n => Value.int IntKind.i64 n) me))))), Value.iface 98 (Value.iface (List.length l) (Value.iface xt (Value.agg (List.toArray (List.flatMap ec l))))), Value.iface 76 (Value.iface (List.length ls) (Value.iface xl (Value.agg (List.toArray (List.flatMap lc ls))))), Value.iface 3 (Value.iface (List.length (Gr.fr g)) (Value.iface (Gr.fx g) (Value.agg (List.toArray (List.map (fun n => Value.int IntKind.i64 n) (Gr.fr g)))))), Value.iface 3 (Value.iface (List.length (Gr.to g)) (Value.iface (Gr.tx g) (Value.agg (List.toArray (List.map (fun n => Value.int IntKind.i64 n) (Gr.to g)))))), Value.int IntKind.i64 (Gr.number g), Value.int IntKind.i64 (Gr.life g), Value.int IntKind.i64 (Gr.at' g), Value.int IntKind.i64 (Gr.total g), Value.int IntKind.i64 (Gr.report g), Value.bool (Gr.more g), Value.bool (Gr.may g), Value.bool (Gr.wants g), Value.string (Gr.data g)]) (by kernel_rfl) (by kernel_rfl) (by kernel_rfl) ?_ (fun cf => (by kernel_rfl))
  refine WpOps.keep 2 (Value.bool false) (by kernel_rfl) (by kernel_rfl) (by kernel_rfl) ?_ (fun cf => (by kernel_rfl))
  refine WpOps.nil ?_
  refine thenK_at ?_
  refine Wp.seq ?_
  refine Wp.text ?_
  refine WpOps.keep 10 (Value.pointer (some (Addr.mk 0 0 none))) (by kernel_rfl) (by kernel_rfl) (by kernel_rfl) ?_ (fun cf => (by kernel_rfl))
  refine WpOps.keep 11 (Value.iface 3 (Value.iface (List.length me) (Value.iface x (Value.agg (List.toArray (List.map (fun n => Value.int IntKind.i64 n) me)))))) (by kernel_rfl) (by kernel_rfl) (by kernel_rfl) ?_ (fun cf => (by kernel_rfl))
  refine WpOps.keep 12 (Value.pointer (some (Addr.mk 0 1 none))) (by kernel_rfl) (by kernel_rfl) (by kernel_rfl) ?_ (fun cf => (by kernel_rfl))
  refine WpOps.keep 13 (Value.iface 98 (Value.iface (List.length l) (Value.iface xt (Value.agg (List.toArray (List.flatMap ec l)))))) (by kernel_rfl) (by kernel_rfl) (by kernel_rfl) ?_ (fun cf => (by kernel_rfl))
  refine WpOps.keep 14 (Value.pointer (some (Addr.mk 0 2 none))) (by kernel_rfl) (by kernel_rfl) (by kernel_rfl) ?_ (fun cf => (by kernel_rfl))
  refine WpOps.keep 15 (Value.iface 76 (Value.iface (List.length ls) (Value.iface xl (Value.agg (List.toArray (List.flatMap lc ls)))))) (by kernel_rfl) (by kernel_rfl) (by kernel_rfl) ?_ (fun cf => (by kernel_rfl))
  refine WpOps.keep 16 (Value.pointer (some (Addr.mk 0 3 none))) (by kernel_rfl) (by kernel_rfl) (by kernel_rfl) ?_ (fun cf => (by kernel_rfl))
  refine WpOps.keep 17 (Value.agg #[Value.iface 3 (Value.iface (List.length (Gr.fr g)) (Value.iface (Gr.fx g) (Value.agg (List.toArray (List.map (fun n => Value.int IntKind.i64 n) (Gr.fr g)))))), Value.iface 3 (Value.iface (List.length (Gr.to g)) (Value.iface (Gr.tx g) (Value.agg (List.toArray (List.map (fun n => Value.int IntKind.i64 n) (Gr.to g)))))), Value.int IntKind.i64 (Gr.number g), Value.int IntKind.i64 (Gr.life g), Value.int IntKind.i64 (Gr.at' g), Value.int IntKind.i64 (Gr.total g), Value.int IntKind.i64 (Gr.report g), Value.bool (Gr.more g), Value.bool (Gr.may g), Value.bool (Gr.wants g), Value.string (Gr.data g)]) (by kernel_rfl) (by kernel_rfl) (by kernel_rfl) ?_ (fun cf => (by kernel_rfl))
  refine WpOps.framed 18 36 [Value.iface 3 (Value.iface (List.length me) (Value.iface x (Value.agg (List.toArray (List.map (fun n => Value.int IntKind.i64 n) me))))), Value.iface 98 (Value.iface (List.length l) (Value.iface xt (Value.agg (List.toArray (List.flatMap ec l))))), Value.iface 76 (Value.iface (List.length ls) (Value.iface xl (Value.agg (List.toArray (List.flatMap lc ls))))), Value.agg #[Value.iface 3 (Value.iface (List.length (Gr.fr g)) (Value.iface (Gr.fx g) (Value.agg (List.toArray (List.map (fun n => Value.int IntKind.i64 n) (Gr.fr g)))))), Value.iface 3 (Value.iface (List.length (Gr.to g)) (Value.iface (Gr.tx g) (Value.agg (List.toArray (List.map (fun n => Value.int IntKind.i64 n) (Gr.to g)))))), Value.int IntKind.i64 (Gr.number g), Value.int IntKind.i64 (Gr.life g), Value.int IntKind.i64 (Gr.at' g), Value.int IntKind.i64 (Gr.total g), Value.int IntKind.i64 (Gr.report g), Value.bool (Gr.more g), Value.bool (Gr.may g), Value.bool (Gr.wants g), Value.string (Gr.data g)]] (by kernel_rfl) (by kernel_rfl) (by kernel_rfl) (by kernel_rfl) (by kernel_rfl) (fun cf => (by kernel_rfl)) ?_
  refine WpFun.of (c) ?_
  refine WpOps.keep 9 (Value.tuple #[out, Value.int IntKind.i64 line, nilV, Value.int IntKind.i64 err]) (by kernel_rfl) (by kernel_rfl) (by kernel_rfl) ?_ (fun cf => (by kernel_rfl))
  refine WpOps.keep 19 (out) (by kernel_rfl) (by kernel_rfl) (by kernel_rfl) ?_ (fun cf => (by kernel_rfl))
  refine WpOps.keep 20 (Value.int IntKind.i64 line) (by kernel_rfl) (by kernel_rfl) (by kernel_rfl) ?_ (fun cf => (by kernel_rfl))
  refine WpOps.keep 21 (Value.slice none 0 0) (by kernel_rfl) (by kernel_rfl) (by kernel_rfl) ?_ (fun cf => (by kernel_rfl))
  refine WpOps.keep 22 (Value.int IntKind.i64 err) (by kernel_rfl) (by kernel_rfl) (by kernel_rfl) ?_ (fun cf => (by kernel_rfl))
  refine WpOps.keep 3 (out) (by kernel_rfl) (by kernel_rfl) (by kernel_rfl) ?_ (fun cf => (by kernel_rfl))
  refine WpOps.keep 4 (Value.int IntKind.i64 line) (by kernel_rfl) (by kernel_rfl) (by kernel_rfl) ?_ (fun cf => (by kernel_rfl))
  refine WpOps.keep 5 (Value.slice none 0 0) (by kernel_rfl) (by kernel_rfl) (by kernel_rfl) ?_ (fun cf => (by kernel_rfl))
  refine WpOps.keep 6 (Value.int IntKind.i64 err) (by kernel_rfl) (by kernel_rfl) (by kernel_rfl) ?_ (fun cf => (by kernel_rfl))
  refine WpOps.nil ?_
  refine thenK_at ?_
  refine Wp.seq ?_
  refine Wp.seq ?_
  refine Wp.text ?_
  refine WpOps.keep 23 (Value.int IntKind.i64 err) (by kernel_rfl) (by kernel_rfl) (by kernel_rfl) ?_ (fun cf => (by kernel_rfl))
  refine WpOps.keep 24 (Value.bool true) (by kernel_rfl) (by kernel_rfl) (by kernel_rfl) ?_ (fun cf => by_fact he ((by kernel_rfl)))
  refine WpOps.nil ?_
  refine thenK_at ?_
  refine Wp.on (by kernel_rfl) ?_
  refine Wp.seq ?_
  refine Wp.text ?_
  refine WpOps.keep 25 (Value.slice none 0 0) (by kernel_rfl) (by kernel_rfl) (by kernel_rfl) ?_ (fun cf => (by kernel_rfl))
  refine WpOps.keep 26 (Value.int IntKind.i64 (↑0 : Int)) (by kernel_rfl) (by kernel_rfl) (by kernel_rfl) ?_ (fun cf => (by kernel_rfl))
  refine WpOps.keep 27 (Value.bool true) (by kernel_rfl) (by kernel_rfl) (by kernel_rfl) ?_ (fun cf => (by kernel_rfl))
  refine WpOps.keep 28 (Value.bool true) (by kernel_rfl) (by kernel_rfl) (by kernel_rfl) ?_ (fun cf => (by kernel_rfl))
  refine WpOps.framed 29 19 [] (by kernel_rfl) (by kernel_rfl) (by kernel_rfl) (by kernel_rfl) (by kernel_rfl) (fun cf => (by kernel_rfl)) ?_
  refine WpFun.of (c1) ?_
  refine WpOps.keep 30 (Value.bool true) (by kernel_rfl) (by kernel_rfl) (by kernel_rfl) ?_ (fun cf => (by kernel_rfl))
  refine WpOps.keep 2 (Value.bool true) (by kernel_rfl) (by kernel_rfl) (by kernel_rfl) ?_ (fun cf => (by kernel_rfl))
  refine WpOps.nil ?_
  refine thenK_at ?_
  refine Wp.ret ?_
  refine thenK_ret ?_
  refine endK_retn [Value.bool true] (Value.bool true) (by kernel_rfl) (by kernel_rfl) ?_
  kernel_rfl
theorem law13_none (c : Fun E 36 [sl x me, ents 98 xt l, lns 76 xl ls, gv g] (.tuple #[out, .int .i64 line, nilV, .int .i64 0])) : Fun E 13 [fcV x xt xl me l ls g] (.bool true) := by
  refine Fun.of f13 rfl (of_decide_eq_true (by kernel_rfl)) rfl ?_
  have c1 := sane19
  refine Wp.seq ?_
  refine Wp.text ?_
  refine WpOps.made 1 (Value.pointer (some (Addr.mk 0 0 none))) (Blk.mk 73 true [Value.iface 3 (Value.iface (List.length me) (Value.iface x (Value.agg (List.toArray (List.map (fun n => Value.int IntKind.i64 n) me))))), Value.iface 98 (Value.iface (List.length l) (Value.iface xt (Value.agg (List.toArray (List.flatMap ec l))))), Value.iface 76 (Value.iface (List.length ls) (Value.iface xl (Value.agg (List.toArray (List.flatMap lc ls))))), Value.iface 3 (Value.iface (List.length (Gr.fr g)) (Value.iface (Gr.fx g) (Value.agg (List.toArray (List.map (fun n => Value.int IntKind.i64 n) (Gr.fr g)))))), Value.iface 3 (Value.iface (List.length (Gr.to g)) (Value.iface (Gr.tx g) (Value.agg (List.toArray (List.map (fun n => Value.int IntKind.i64 n) (Gr.to g)))))), Value.int IntKind.i64 (Gr.number g), Value.int IntKind.i64 (Gr.life g), Value.int IntKind.i64 (Gr.at' g), Value.int IntKind.i64 (Gr.total g), Value.int IntKind.i64 (Gr.report g), Value.bool (Gr.more g), Value.bool (Gr.may g), Value.bool (Gr.wants g), Value.string (Gr.data g)]) (by kernel_rfl) (by kernel_rfl) (by kernel_rfl) ?_ (fun cf => (by kernel_rfl))
  refine WpOps.keep 2 (Value.bool false) (by kernel_rfl) (by kernel_rfl) (by kernel_rfl) ?_ (fun cf => (by kernel_rfl))
  refine WpOps.nil ?_
  refine thenK_at ?_
  refine Wp.seq ?_
  refine Wp.text ?_
  refine WpOps.keep 10 (Value.pointer (some (Addr.mk 0 0 none))) (by kernel_rfl) (by kernel_rfl) (by kernel_rfl) ?_ (fun cf => (by kernel_rfl))
  refine WpOps.keep 11 (Value.iface 3 (Value.iface (List.length me) (Value.iface x (Value.agg (List.toArray (List.map (fun n => Value.int IntKind.i64 n) me)))))) (by kernel_rfl) (by kernel_rfl) (by kernel_rfl) ?_ (fun cf => (by kernel_rfl))
  refine WpOps.keep 12 (Value.pointer (some (Addr.mk 0 1 none))) (by kernel_rfl) (by kernel_rfl) (by kernel_rfl) ?_ (fun cf => (by kernel_rfl))
  refine WpOps.keep 13 (Value.iface 98 (Value.iface (List.length l) (Value.iface xt (Value.agg (List.toArray (List.flatMap ec l)))))) (by kernel_rfl) (by kernel_rfl) (by kernel_rfl) ?_ (fun cf => (by kernel_rfl))
  refine WpOps.keep 14 (Value.pointer (some (Addr.mk 0 2 none))) (by kernel_rfl) (by kernel_rfl) (by kernel_rfl) ?_ (fun cf => (by kernel_rfl))
  refine WpOps.keep 15 (Value.iface 76 (Value.iface (List.length ls) (Value.iface xl (Value.agg (List.toArray (List.flatMap lc ls)))))) (by kernel_rfl) (by kernel_rfl) (by kernel_rfl) ?_ (fun cf => (by kernel_rfl))
  refine WpOps.keep 16 (Value.pointer (some (Addr.mk 0 3 none))) (by kernel_rfl) (by kernel_rfl) (by kernel_rfl) ?_ (fun cf => (by kernel_rfl))
  refine WpOps.keep 17 (Value.agg #[Value.iface 3 (Value.iface (List.length (Gr.fr g)) (Value.iface (Gr.fx g) (Value.agg (List.toArray (List.map (fun n => Value.int IntKind.i64 n) (Gr.fr g)))))), Value.iface 3 (Value.iface (List.length (Gr.to g)) (Value.iface (Gr.tx g) (Value.agg (List.toArray (List.map (fun n => Value.int IntKind.i64 n) (Gr.to g)))))), Value.int IntKind.i64 (Gr.number g), Value.int IntKind.i64 (Gr.life g), Value.int IntKind.i64 (Gr.at' g), Value.int IntKind.i64 (Gr.total g), Value.int IntKind.i64 (Gr.report g), Value.bool (Gr.more g), Value.bool (Gr.may g), Value.bool (Gr.wants g), Value.string (Gr.data g)]) (by kernel_rfl) (by kernel_rfl) (by kernel_rfl) ?_ (fun cf => (by kernel_rfl))
  refine WpOps.framed 18 36 [Value.iface 3 (Value.iface (List.length me) (Value.iface x (Value.agg (List.toArray (List.map (fun n => Value.int IntKind.i64 n) me))))), Value.iface 98 (Value.iface (List.length l) (Value.iface xt (Value.agg (List.toArray (List.flatMap ec l))))), Value.iface 76 (Value.iface (List.length ls) (Value.iface xl (Value.agg (List.toArray (List.flatMap lc ls))))), Value.agg #[Value.iface 3 (Value.iface (List.length (Gr.fr g)) (Value.iface (Gr.fx g) (Value.agg (List.toArray (List.map (fun n => Value.int IntKind.i64 n) (Gr.fr g)))))), Value.iface 3 (Value.iface (List.length (Gr.to g)) (Value.iface (Gr.tx g) (Value.agg (List.toArray (List.map (fun n => Value.int IntKind.i64 n) (Gr.to g)))))), Value.int IntKind.i64 (Gr.number g), Value.int IntKind.i64 (Gr.life g), Value.int IntKind.i64 (Gr.at' g), Value.int IntKind.i64 (Gr.total g), Value.int IntKind.i64 (Gr.report g), Value.bool (Gr.more g), Value.bool (Gr.may g), Value.bool (Gr.wants g), Value.string (Gr.data g)]] (by kernel_rfl) (by kernel_rfl) (by kernel_rfl) (by kernel_rfl) (by kernel_rfl) (fun cf => (by kernel_rfl)) ?_
  refine WpFun.of (c) ?_
  refine WpOps.keep 9 (Value.tuple #[out, Value.int IntKind.i64 line, Value.slice none 0 0, Value.int IntKind.i64 0]) (by kernel_rfl) (by kernel_rfl) (by kernel_rfl) ?_ (fun cf => (by kernel_rfl))
  refine WpOps.keep 19 (out) (by kernel_rfl) (by kernel_rfl) (by kernel_rfl) ?_ (fun cf => (by kernel_rfl))
  refine WpOps.keep 20 (Value.int IntKind.i64 line) (by kernel_rfl) (by kernel_rfl) (by kernel_rfl) ?_ (fun cf => (by kernel_rfl))
  refine WpOps.keep 21 (Value.slice none 0 0) (by kernel_rfl) (by kernel_rfl) (by kernel_rfl) ?_ (fun cf => (by kernel_rfl))
  refine WpOps.keep 22 (Value.int IntKind.i64 0) (by kernel_rfl) (by kernel_rfl) (by kernel_rfl) ?_ (fun cf => (by kernel_rfl))
  refine WpOps.keep 3 (out) (by kernel_rfl) (by kernel_rfl) (by kernel_rfl) ?_ (fun cf => (by kernel_rfl))
  refine WpOps.keep 4 (Value.int IntKind.i64 line) (by kernel_rfl) (by kernel_rfl) (by kernel_rfl) ?_ (fun cf => (by kernel_rfl))
  refine WpOps.keep 5 (Value.slice none 0 0) (by kernel_rfl) (by kernel_rfl) (by kernel_rfl) ?_ (fun cf => (by kernel_rfl))
  refine WpOps.keep 6 (Value.int IntKind.i64 0) (by kernel_rfl) (by kernel_rfl) (by kernel_rfl) ?_ (fun cf => (by kernel_rfl))
  refine WpOps.nil ?_
  refine thenK_at ?_
  refine Wp.seq ?_
  refine Wp.seq ?_
  refine Wp.text ?_
  refine WpOps.keep 23 (Value.int IntKind.i64 0) (by kernel_rfl) (by kernel_rfl) (by kernel_rfl) ?_ (fun cf => (by kernel_rfl))
  refine WpOps.keep 24 (Value.bool false) (by kernel_rfl) (by kernel_rfl) (by kernel_rfl) ?_ (fun cf => (by kernel_rfl))
  refine WpOps.nil ?_
  refine thenK_at ?_
  refine Wp.off (by kernel_rfl) ?_
  refine Wp.skip ?_
  refine thenK_at ?_
  refine Wp.seq ?_
  refine Wp.seq ?_
  refine Wp.text ?_
  refine WpOps.keep 31 (Value.slice none 0 0) (by kernel_rfl) (by kernel_rfl) (by kernel_rfl) ?_ (fun cf => (by kernel_rfl))
  refine WpOps.keep 32 (Value.int IntKind.i64 (↑0 : Int)) (by kernel_rfl) (by kernel_rfl) (by kernel_rfl) ?_ (fun cf => (by kernel_rfl))
  refine WpOps.keep 33 (Value.bool false) (by kernel_rfl) (by kernel_rfl) (by kernel_rfl) ?_ (fun cf => (by kernel_rfl))
  refine WpOps.keep 34 (Value.bool false) (by kernel_rfl) (by kernel_rfl) (by kernel_rfl) ?_ (fun cf => (by kernel_rfl))
  refine WpOps.keep 35 (Value.slice none 0 0) (by kernel_rfl) (by kernel_rfl) (by kernel_rfl) ?_ (fun cf => (by kernel_rfl))
  refine WpOps.keep 36 (Value.int IntKind.i64 (↑0 : Int)) (by kernel_rfl) (by kernel_rfl) (by kernel_rfl) ?_ (fun cf => (by kernel_rfl))
  refine WpOps.keep 37 (Value.bool false) (by kernel_rfl) (by kernel_rfl) (by kernel_rfl) ?_ (fun cf => (by kernel_rfl))
  refine WpOps.keep 38 (Value.bool false) (by kernel_rfl) (by kernel_rfl) (by kernel_rfl) ?_ (fun cf => (by kernel_rfl))
  refine WpOps.unmet 39 (by kernel_rfl) (by kernel_rfl) (by kernel_rfl) ?_
  refine WpOps.unmet 40 (by kernel_rfl) (by kernel_rfl) (by kernel_rfl) ?_
  refine WpOps.unmet 41 (by kernel_rfl) (by kernel_rfl) (by kernel_rfl) ?_
  refine WpOps.unmet 42 (by kernel_rfl) (by kernel_rfl) (by kernel_rfl) ?_
  refine WpOps.unmet 43 (by kernel_rfl) (by kernel_rfl) (by kernel_rfl) ?_
  refine WpOps.unmet 44 (by kernel_rfl) (by kernel_rfl) (by kernel_rfl) ?_
  refine WpOps.unmet 45 (by kernel_rfl) (by kernel_rfl) (by kernel_rfl) ?_
  refine WpOps.unmet 46 (by kernel_rfl) (by kernel_rfl) (by kernel_rfl) ?_
  refine WpOps.unmet 47 (by kernel_rfl) (by kernel_rfl) (by kernel_rfl) ?_
  refine WpOps.unmet 48 (by kernel_rfl) (by kernel_rfl) (by kernel_rfl) ?_
  refine WpOps.keep 49 (Value.bool false) (by kernel_rfl) (by kernel_rfl) (by kernel_rfl) ?_ (fun cf => (by kernel_rfl))
  refine WpOps.keep 50 (Value.bool false) (by kernel_rfl) (by kernel_rfl) (by kernel_rfl) ?_ (fun cf => (by kernel_rfl))
  refine WpOps.nil ?_
  refine thenK_at ?_
  refine Wp.off (by kernel_rfl) ?_
  refine Wp.skip ?_
  refine thenK_at ?_
  refine Wp.seq ?_
  refine Wp.seq ?_
  refine Wp.text ?_
  refine WpOps.keep 7 (Value.int IntKind.i64 0) (by kernel_rfl) (by kernel_rfl) (by kernel_rfl) ?_ (fun cf => (by kernel_rfl))
  refine WpOps.nil ?_
  refine thenK_at ?_
  refine Wp.block ?_
  refine Wp.unroll (WpL.step ?_)
  refine Wp.seq ?_
  refine Wp.seq ?_
  refine Wp.text ?_
  refine WpOps.keep 51 (Value.int IntKind.i64 0) (by kernel_rfl) (by kernel_rfl) (by kernel_rfl) ?_ (fun cf => (by kernel_rfl))
  refine WpOps.keep 52 (Value.slice none 0 0) (by kernel_rfl) (by kernel_rfl) (by kernel_rfl) ?_ (fun cf => (by kernel_rfl))
  refine WpOps.keep 53 (Value.int IntKind.i64 (↑0 : Int)) (by kernel_rfl) (by kernel_rfl) (by kernel_rfl) ?_ (fun cf => (by kernel_rfl))
  refine WpOps.keep 54 (Value.bool false) (by kernel_rfl) (by kernel_rfl) (by kernel_rfl) ?_ (fun cf => (by kernel_rfl))
  refine WpOps.nil ?_
  refine thenK_at ?_
  refine Wp.off (by kernel_rfl) ?_
  refine Wp.exit ?_
  refine thenK_exit ?_
  refine thenK_exit ?_
  refine blockK_hit ?_
  refine thenK_at ?_
  refine Wp.seq ?_
  refine Wp.text ?_
  refine WpOps.framed 98 19 [] (by kernel_rfl) (by kernel_rfl) (by kernel_rfl) (by kernel_rfl) (by kernel_rfl) (fun cf => (by kernel_rfl)) ?_
  refine WpFun.of (c1) ?_
  refine WpOps.keep 2 (Value.bool true) (by kernel_rfl) (by kernel_rfl) (by kernel_rfl) ?_ (fun cf => (by kernel_rfl))
  refine WpOps.nil ?_
  refine thenK_at ?_
  refine Wp.ret ?_
  refine endK_retn [Value.bool true] (Value.bool true) (by kernel_rfl) (by kernel_rfl) ?_
  kernel_rfl
theorem law13_one (k : Int) (h1 : 1 ≤ k) (h2 : k ≤ 3) (hw : g.wants = true) (hm : me.length ≤ 17592186044416) (og : OkGr g) (ho : okF me l ls g = true) (c : Fun E 36 [sl x me, ents 98 xt l, lns 76 xl ls, gv g] (.tuple #[out, .int .i64 line, grams 24 [rep x me g k], .int .i64 0])) : Fun E 13 [fcV x xt xl me l ls g] (.bool true) := by
  refine Fun.of f13 rfl (of_decide_eq_true (by kernel_rfl)) rfl ?_
  have c1 := sane19
  have c2 := valid20 (rep x me g k) (by show me.length ≤ _; omega) (by have := og.fl; show g.fr.length ≤ _; omega)
  rw [rep_ok x me l ls g k h1 h2 ho] at c2
  have c3 := ints43 (nx g.fx) g.fx g.fr (by have := og.fl; omega)
  have c4 := ints43 (nx x) x me (by omega)
  have z1 : ((rep x me g k).report == 0) = false := beq_eq_false_iff_ne.2 (by show k ≠ 0; omega)
  have z2 : ((rep x me g k).number != g.number) = false := by show (g.number != g.number) = false; simp
  have z3 : (g.report != 0) = false := by
    have := wants_rep g (by unfold okF at ho; simp only [Bool.and_eq_true] at ho; exact ho.1.2) hw
    rw [this]
    rfl
  refine Wp.seq ?_
  refine Wp.text ?_
  refine WpOps.made 1 (Value.pointer (some (Addr.mk 0 0 none))) (Blk.mk 73 true [Value.iface 3 (Value.iface (List.length me) (Value.iface x (Value.agg (List.toArray (List.map (fun n => Value.int IntKind.i64 n) me))))), Value.iface 98 (Value.iface (List.length l) (Value.iface xt (Value.agg (List.toArray (List.flatMap ec l))))), Value.iface 76 (Value.iface (List.length ls) (Value.iface xl (Value.agg (List.toArray (List.flatMap lc ls))))), Value.iface 3 (Value.iface (List.length (Gr.fr g)) (Value.iface (Gr.fx g) (Value.agg (List.toArray (List.map (fun n => Value.int IntKind.i64 n) (Gr.fr g)))))), Value.iface 3 (Value.iface (List.length (Gr.to g)) (Value.iface (Gr.tx g) (Value.agg (List.toArray (List.map (fun n => Value.int IntKind.i64 n) (Gr.to g)))))), Value.int IntKind.i64 (Gr.number g), Value.int IntKind.i64 (Gr.life g), Value.int IntKind.i64 (Gr.at' g), Value.int IntKind.i64 (Gr.total g), Value.int IntKind.i64 (Gr.report g), Value.bool (Gr.more g), Value.bool (Gr.may g), Value.bool (Gr.wants g), Value.string (Gr.data g)]) (by kernel_rfl) (by kernel_rfl) (by kernel_rfl) ?_ (fun cf => (by kernel_rfl))
  refine WpOps.keep 2 (Value.bool false) (by kernel_rfl) (by kernel_rfl) (by kernel_rfl) ?_ (fun cf => (by kernel_rfl))
  refine WpOps.nil ?_
  refine thenK_at ?_
  refine Wp.seq ?_
  refine Wp.text ?_
  refine WpOps.keep 10 (Value.pointer (some (Addr.mk 0 0 none))) (by kernel_rfl) (by kernel_rfl) (by kernel_rfl) ?_ (fun cf => (by kernel_rfl))
  refine WpOps.keep 11 (Value.iface 3 (Value.iface (List.length me) (Value.iface x (Value.agg (List.toArray (List.map (fun n => Value.int IntKind.i64 n) me)))))) (by kernel_rfl) (by kernel_rfl) (by kernel_rfl) ?_ (fun cf => (by kernel_rfl))
  refine WpOps.keep 12 (Value.pointer (some (Addr.mk 0 1 none))) (by kernel_rfl) (by kernel_rfl) (by kernel_rfl) ?_ (fun cf => (by kernel_rfl))
  refine WpOps.keep 13 (Value.iface 98 (Value.iface (List.length l) (Value.iface xt (Value.agg (List.toArray (List.flatMap ec l)))))) (by kernel_rfl) (by kernel_rfl) (by kernel_rfl) ?_ (fun cf => (by kernel_rfl))
  refine WpOps.keep 14 (Value.pointer (some (Addr.mk 0 2 none))) (by kernel_rfl) (by kernel_rfl) (by kernel_rfl) ?_ (fun cf => (by kernel_rfl))
  refine WpOps.keep 15 (Value.iface 76 (Value.iface (List.length ls) (Value.iface xl (Value.agg (List.toArray (List.flatMap lc ls)))))) (by kernel_rfl) (by kernel_rfl) (by kernel_rfl) ?_ (fun cf => (by kernel_rfl))
  refine WpOps.keep 16 (Value.pointer (some (Addr.mk 0 3 none))) (by kernel_rfl) (by kernel_rfl) (by kernel_rfl) ?_ (fun cf => (by kernel_rfl))
  refine WpOps.keep 17 (Value.agg #[Value.iface 3 (Value.iface (List.length (Gr.fr g)) (Value.iface (Gr.fx g) (Value.agg (List.toArray (List.map (fun n => Value.int IntKind.i64 n) (Gr.fr g)))))), Value.iface 3 (Value.iface (List.length (Gr.to g)) (Value.iface (Gr.tx g) (Value.agg (List.toArray (List.map (fun n => Value.int IntKind.i64 n) (Gr.to g)))))), Value.int IntKind.i64 (Gr.number g), Value.int IntKind.i64 (Gr.life g), Value.int IntKind.i64 (Gr.at' g), Value.int IntKind.i64 (Gr.total g), Value.int IntKind.i64 (Gr.report g), Value.bool (Gr.more g), Value.bool (Gr.may g), Value.bool (Gr.wants g), Value.string (Gr.data g)]) (by kernel_rfl) (by kernel_rfl) (by kernel_rfl) ?_ (fun cf => (by kernel_rfl))
  refine WpOps.framed 18 36 [Value.iface 3 (Value.iface (List.length me) (Value.iface x (Value.agg (List.toArray (List.map (fun n => Value.int IntKind.i64 n) me))))), Value.iface 98 (Value.iface (List.length l) (Value.iface xt (Value.agg (List.toArray (List.flatMap ec l))))), Value.iface 76 (Value.iface (List.length ls) (Value.iface xl (Value.agg (List.toArray (List.flatMap lc ls))))), Value.agg #[Value.iface 3 (Value.iface (List.length (Gr.fr g)) (Value.iface (Gr.fx g) (Value.agg (List.toArray (List.map (fun n => Value.int IntKind.i64 n) (Gr.fr g)))))), Value.iface 3 (Value.iface (List.length (Gr.to g)) (Value.iface (Gr.tx g) (Value.agg (List.toArray (List.map (fun n => Value.int IntKind.i64 n) (Gr.to g)))))), Value.int IntKind.i64 (Gr.number g), Value.int IntKind.i64 (Gr.life g), Value.int IntKind.i64 (Gr.at' g), Value.int IntKind.i64 (Gr.total g), Value.int IntKind.i64 (Gr.report g), Value.bool (Gr.more g), Value.bool (Gr.may g), Value.bool (Gr.wants g), Value.string (Gr.data g)]] (by kernel_rfl) (by kernel_rfl) (by kernel_rfl) (by kernel_rfl) (by kernel_rfl) (fun cf => (by kernel_rfl)) ?_
  refine WpFun.of (c) ?_
  refine WpOps.keep 9 (Value.tuple #[out, Value.int IntKind.i64 line, grams 24 [rep x me g k], Value.int IntKind.i64 0]) (by kernel_rfl) (by kernel_rfl) (by kernel_rfl) ?_ (fun cf => (by kernel_rfl))
  refine WpOps.keep 19 (out) (by kernel_rfl) (by kernel_rfl) (by kernel_rfl) ?_ (fun cf => (by kernel_rfl))
  refine WpOps.keep 20 (Value.int IntKind.i64 line) (by kernel_rfl) (by kernel_rfl) (by kernel_rfl) ?_ (fun cf => (by kernel_rfl))
  refine WpOps.keep 21 (Value.iface 24 (Value.iface (List.length [rep x me g k]) (Value.iface 0 (Value.agg (List.toArray (cellsG [rep x me g k])))))) (by kernel_rfl) (by kernel_rfl) (by kernel_rfl) ?_ (fun cf => (by kernel_rfl))
  refine WpOps.keep 22 (Value.int IntKind.i64 0) (by kernel_rfl) (by kernel_rfl) (by kernel_rfl) ?_ (fun cf => (by kernel_rfl))
  refine WpOps.keep 3 (out) (by kernel_rfl) (by kernel_rfl) (by kernel_rfl) ?_ (fun cf => (by kernel_rfl))
  refine WpOps.keep 4 (Value.int IntKind.i64 line) (by kernel_rfl) (by kernel_rfl) (by kernel_rfl) ?_ (fun cf => (by kernel_rfl))
  refine WpOps.keep 5 (Value.iface 24 (Value.iface (List.length [rep x me g k]) (Value.iface 0 (Value.agg (List.toArray (cellsG [rep x me g k])))))) (by kernel_rfl) (by kernel_rfl) (by kernel_rfl) ?_ (fun cf => (by kernel_rfl))
  refine WpOps.keep 6 (Value.int IntKind.i64 0) (by kernel_rfl) (by kernel_rfl) (by kernel_rfl) ?_ (fun cf => (by kernel_rfl))
  refine WpOps.nil ?_
  refine thenK_at ?_
  refine Wp.seq ?_
  refine Wp.seq ?_
  refine Wp.text ?_
  refine WpOps.keep 23 (Value.int IntKind.i64 0) (by kernel_rfl) (by kernel_rfl) (by kernel_rfl) ?_ (fun cf => (by kernel_rfl))
  refine WpOps.keep 24 (Value.bool false) (by kernel_rfl) (by kernel_rfl) (by kernel_rfl) ?_ (fun cf => (by kernel_rfl))
  refine WpOps.nil ?_
  refine thenK_at ?_
  refine Wp.off (by kernel_rfl) ?_
  refine Wp.skip ?_
  refine thenK_at ?_
  refine Wp.seq ?_
  refine Wp.seq ?_
  refine Wp.text ?_
  refine WpOps.keep 31 (Value.iface 24 (Value.iface (List.length [rep x me g k]) (Value.iface 0 (Value.agg (List.toArray (cellsG [rep x me g k])))))) (by kernel_rfl) (by kernel_rfl) (by kernel_rfl) ?_ (fun cf => (by kernel_rfl))
  refine WpOps.keep 32 (Value.int IntKind.i64 (↑(List.length [rep x me g k]) : Int)) (by kernel_rfl) (by kernel_rfl) (by kernel_rfl) ?_ (fun cf => (by kernel_rfl))
  refine WpOps.keep 33 (Value.bool (decide ((↑(List.length [rep x me g k]) : Int) > 1))) (by kernel_rfl) (by kernel_rfl) (by kernel_rfl) ?_ (fun cf => (by kernel_rfl))
  refine WpOps.keep 34 (Value.bool (decide ((↑(List.length [rep x me g k]) : Int) > 1))) (by kernel_rfl) (by kernel_rfl) (by kernel_rfl) ?_ (fun cf => (by kernel_rfl))
  refine WpOps.keep 35 (Value.iface 24 (Value.iface (List.length [rep x me g k]) (Value.iface 0 (Value.agg (List.toArray (cellsG [rep x me g k])))))) (by kernel_rfl) (by kernel_rfl) (by kernel_rfl) ?_ (fun cf => (by kernel_rfl))
  refine WpOps.keep 36 (Value.int IntKind.i64 (↑(List.length [rep x me g k]) : Int)) (by kernel_rfl) (by kernel_rfl) (by kernel_rfl) ?_ (fun cf => (by kernel_rfl))
  refine WpOps.keep 37 (Value.bool (decide ((↑(List.length [rep x me g k]) : Int) > 0))) (by kernel_rfl) (by kernel_rfl) (by kernel_rfl) ?_ (fun cf => (by kernel_rfl))
  refine WpOps.keep 38 (Value.bool (decide ((↑(List.length [rep x me g k]) : Int) > 0))) (by kernel_rfl) (by kernel_rfl) (by kernel_rfl) ?_ (fun cf => (by kernel_rfl))
  refine WpOps.keep 39 (Value.pointer (some (Addr.mk 0 3 none))) (by kernel_rfl) (by kernel_rfl) (by kernel_rfl) ?_ (fun cf => (by kernel_rfl))
  refine WpOps.keep 40 (Value.pointer (some (Addr.mk 0 9 none))) (by kernel_rfl) (by kernel_rfl) (by kernel_rfl) ?_ (fun cf => (by kernel_rfl))
  refine WpOps.keep 41 (Value.int IntKind.i64 (Gr.report g)) (by kernel_rfl) (by kernel_rfl) (by kernel_rfl) ?_ (fun cf => (by kernel_rfl))
  refine WpOps.keep 42 (Value.bool false) (by kernel_rfl) (by kernel_rfl) (by kernel_rfl) ?_ (fun cf => by_fact z3 ((by kernel_rfl)))
  refine WpOps.keep 43 (Value.bool false) (by kernel_rfl) (by kernel_rfl) (by kernel_rfl) ?_ (fun cf => (by kernel_rfl))
  refine WpOps.keep 44 (Value.pointer (some (Addr.mk 0 3 none))) (by kernel_rfl) (by kernel_rfl) (by kernel_rfl) ?_ (fun cf => (by kernel_rfl))
  refine WpOps.keep 45 (Value.pointer (some (Addr.mk 0 12 none))) (by kernel_rfl) (by kernel_rfl) (by kernel_rfl) ?_ (fun cf => (by kernel_rfl))
  refine WpOps.keep 46 (Value.bool true) (by kernel_rfl) (by kernel_rfl) (by kernel_rfl) ?_ (fun cf => by_fact hw ((by kernel_rfl)))
  refine WpOps.keep 47 (Value.bool false) (by kernel_rfl) (by kernel_rfl) (by kernel_rfl) ?_ (fun cf => (by kernel_rfl))
  refine WpOps.keep 48 (Value.bool false) (by kernel_rfl) (by kernel_rfl) (by kernel_rfl) ?_ (fun cf => (by kernel_rfl))
  refine WpOps.keep 49 (Value.bool false) (by kernel_rfl) (by kernel_rfl) (by kernel_rfl) ?_ (fun cf => (by kernel_rfl))
  refine WpOps.keep 50 (Value.bool false) (by kernel_rfl) (by kernel_rfl) (by kernel_rfl) ?_ (fun cf => (by kernel_rfl))
  refine WpOps.nil ?_
  refine thenK_at ?_
  refine Wp.off (by kernel_rfl) ?_
  refine Wp.skip ?_
  refine thenK_at ?_
  refine Wp.seq ?_
  refine Wp.seq ?_
  refine Wp.text ?_
  refine WpOps.keep 7 (Value.int IntKind.i64 0) (by kernel_rfl) (by kernel_rfl) (by kernel_rfl) ?_ (fun cf => (by kernel_rfl))
  refine WpOps.nil ?_
  refine thenK_at ?_
  refine Wp.block ?_
  refine Wp.unroll (WpL.step ?_)
  refine Wp.seq ?_
  refine Wp.seq ?_
  refine Wp.text ?_
  refine WpOps.keep 51 (Value.int IntKind.i64 0) (by kernel_rfl) (by kernel_rfl) (by kernel_rfl) ?_ (fun cf => (by kernel_rfl))
  refine WpOps.keep 52 (Value.iface 24 (Value.iface (List.length [rep x me g k]) (Value.iface 0 (Value.agg (List.toArray (cellsG [rep x me g k])))))) (by kernel_rfl) (by kernel_rfl) (by kernel_rfl) ?_ (fun cf => (by kernel_rfl))
  refine WpOps.keep 53 (Value.int IntKind.i64 (↑(List.length [rep x me g k]) : Int)) (by kernel_rfl) (by kernel_rfl) (by kernel_rfl) ?_ (fun cf => (by kernel_rfl))
  refine WpOps.keep 54 (Value.bool (decide (0 < (↑(List.length [rep x me g k]) : Int)))) (by kernel_rfl) (by kernel_rfl) (by kernel_rfl) ?_ (fun cf => (by kernel_rfl))
  refine WpOps.nil ?_
  refine thenK_at ?_
  refine Wp.on (by kernel_rfl) ?_
  refine Wp.skip ?_
  refine thenK_at ?_
  refine Wp.seq ?_
  refine Wp.block ?_
  refine Wp.seq ?_
  refine Wp.text ?_
  refine WpOps.keep 57 (Value.iface 24 (Value.iface (List.length [rep x me g k]) (Value.iface 0 (Value.agg (List.toArray (cellsG [rep x me g k])))))) (by kernel_rfl) (by kernel_rfl) (by kernel_rfl) ?_ (fun cf => (by kernel_rfl))
  refine WpOps.keep 58 (Value.int IntKind.i64 0) (by kernel_rfl) (by kernel_rfl) (by kernel_rfl) ?_ (fun cf => (by kernel_rfl))
  refine WpOps.keep 59 (Value.iface 24 (Value.iface 0 (Value.agg (List.toArray (cellsG [rep x me g k]))))) (by kernel_rfl) (by kernel_rfl) (by kernel_rfl) ?_ (fun cf => (by kernel_rfl))
  refine WpOps.keep 60 (Value.agg #[Value.iface 3 (Value.iface (List.length (Gr.fr (rep x me g k))) (Value.iface (Gr.fx (rep x me g k)) (Value.agg (List.toArray (List.map (fun n => Value.int IntKind.i64 n) (Gr.fr (rep x me g k))))))), Value.iface 3 (Value.iface (List.length (Gr.to (rep x me g k))) (Value.iface (Gr.tx (rep x me g k)) (Value.agg (List.toArray (List.map (fun n => Value.int IntKind.i64 n) (Gr.to (rep x me g k))))))), Value.int IntKind.i64 (Gr.number (rep x me g k)), Value.int IntKind.i64 (Gr.life (rep x me g k)), Value.int IntKind.i64 (Gr.at' (rep x me g k)), Value.int IntKind.i64 (Gr.total (rep x me g k)), Value.int IntKind.i64 (Gr.report (rep x me g k)), Value.bool (Gr.more (rep x me g k)), Value.bool (Gr.may (rep x me g k)), Value.bool (Gr.wants (rep x me g k)), Value.string (Gr.data (rep x me g k))]) (by kernel_rfl) (by kernel_rfl) (by kernel_rfl) ?_ (fun cf => (by kernel_rfl))
  refine WpOps.made 8 (Value.pointer (some (Addr.mk 1 0 none))) (Blk.mk 24 true [Value.slice none 0 0, Value.slice none 0 0, Value.int IntKind.i64 0, Value.int IntKind.i64 0, Value.int IntKind.i64 0, Value.int IntKind.i64 0, Value.int IntKind.i64 0, Value.bool false, Value.bool false, Value.bool false, Value.string (ByteArray.mk #[])]) (by kernel_rfl) (by kernel_rfl) (by kernel_rfl) ?_ (fun cf => (by kernel_rfl))
  refine WpOps.laid (Value.tuple #[]) (1) (Blk.mk 24 true [Value.iface 3 (Value.iface (List.length (Gr.fr (rep x me g k))) (Value.iface (Gr.fx (rep x me g k)) (Value.agg (List.toArray (List.map (fun n => Value.int IntKind.i64 n) (Gr.fr (rep x me g k))))))), Value.iface 3 (Value.iface (List.length (Gr.to (rep x me g k))) (Value.iface (Gr.tx (rep x me g k)) (Value.agg (List.toArray (List.map (fun n => Value.int IntKind.i64 n) (Gr.to (rep x me g k))))))), Value.int IntKind.i64 (Gr.number (rep x me g k)), Value.int IntKind.i64 (Gr.life (rep x me g k)), Value.int IntKind.i64 (Gr.at' (rep x me g k)), Value.int IntKind.i64 (Gr.total (rep x me g k)), Value.int IntKind.i64 (Gr.report (rep x me g k)), Value.bool (Gr.more (rep x me g k)), Value.bool (Gr.may (rep x me g k)), Value.bool (Gr.wants (rep x me g k)), Value.string (Gr.data (rep x me g k))]) (by kernel_rfl) (by kernel_rfl) (by kernel_rfl) ?_ (fun cf => (by kernel_rfl))
  refine WpOps.nil ?_
  refine thenK_at ?_
  refine Wp.seq ?_
  refine Wp.text ?_
  refine WpOps.keep 61 (Value.agg #[Value.iface 3 (Value.iface (List.length (Gr.fr (rep x me g k))) (Value.iface (Gr.fx (rep x me g k)) (Value.agg (List.toArray (List.map (fun n => Value.int IntKind.i64 n) (Gr.fr (rep x me g k))))))), Value.iface 3 (Value.iface (List.length (Gr.to (rep x me g k))) (Value.iface (Gr.tx (rep x me g k)) (Value.agg (List.toArray (List.map (fun n => Value.int IntKind.i64 n) (Gr.to (rep x me g k))))))), Value.int IntKind.i64 (Gr.number (rep x me g k)), Value.int IntKind.i64 (Gr.life (rep x me g k)), Value.int IntKind.i64 (Gr.at' (rep x me g k)), Value.int IntKind.i64 (Gr.total (rep x me g k)), Value.int IntKind.i64 (Gr.report (rep x me g k)), Value.bool (Gr.more (rep x me g k)), Value.bool (Gr.may (rep x me g k)), Value.bool (Gr.wants (rep x me g k)), Value.string (Gr.data (rep x me g k))]) (by kernel_rfl) (by kernel_rfl) (by kernel_rfl) ?_ (fun cf => (by kernel_rfl))
  refine WpOps.framed 62 20 [Value.agg #[Value.iface 3 (Value.iface (List.length (Gr.fr (rep x me g k))) (Value.iface (Gr.fx (rep x me g k)) (Value.agg (List.toArray (List.map (fun n => Value.int IntKind.i64 n) (Gr.fr (rep x me g k))))))), Value.iface 3 (Value.iface (List.length (Gr.to (rep x me g k))) (Value.iface (Gr.tx (rep x me g k)) (Value.agg (List.toArray (List.map (fun n => Value.int IntKind.i64 n) (Gr.to (rep x me g k))))))), Value.int IntKind.i64 (Gr.number (rep x me g k)), Value.int IntKind.i64 (Gr.life (rep x me g k)), Value.int IntKind.i64 (Gr.at' (rep x me g k)), Value.int IntKind.i64 (Gr.total (rep x me g k)), Value.int IntKind.i64 (Gr.report (rep x me g k)), Value.bool (Gr.more (rep x me g k)), Value.bool (Gr.may (rep x me g k)), Value.bool (Gr.wants (rep x me g k)), Value.string (Gr.data (rep x me g k))]] (by kernel_rfl) (by kernel_rfl) (by kernel_rfl) (by kernel_rfl) (by kernel_rfl) (fun cf => (by kernel_rfl)) ?_
  refine WpFun.of (c2) ?_
  refine WpOps.keep 63 (Value.bool false) (by kernel_rfl) (by kernel_rfl) (by kernel_rfl) ?_ (fun cf => (by kernel_rfl))
  refine WpOps.keep 64 (Value.bool false) (by kernel_rfl) (by kernel_rfl) (by kernel_rfl) ?_ (fun cf => (by kernel_rfl))
  refine WpOps.keep 65 (Value.pointer (some (Addr.mk 1 9 none))) (by kernel_rfl) (by kernel_rfl) (by kernel_rfl) ?_ (fun cf => (by kernel_rfl))
  refine WpOps.keep 66 (Value.bool (Gr.wants (rep x me g k))) (by kernel_rfl) (by kernel_rfl) (by kernel_rfl) ?_ (fun cf => (by kernel_rfl))
  refine WpOps.keep 67 (Value.bool (Gr.wants (rep x me g k))) (by kernel_rfl) (by kernel_rfl) (by kernel_rfl) ?_ (fun cf => (by kernel_rfl))
  refine WpOps.keep 68 (Value.bool (Gr.wants (rep x me g k))) (by kernel_rfl) (by kernel_rfl) (by kernel_rfl) ?_ (fun cf => (by kernel_rfl))
  refine WpOps.keep 69 (Value.pointer (some (Addr.mk 1 6 none))) (by kernel_rfl) (by kernel_rfl) (by kernel_rfl) ?_ (fun cf => (by kernel_rfl))
  refine WpOps.keep 70 (Value.int IntKind.i64 (Gr.report (rep x me g k))) (by kernel_rfl) (by kernel_rfl) (by kernel_rfl) ?_ (fun cf => (by kernel_rfl))
  refine WpOps.keep 71 (Value.bool false) (by kernel_rfl) (by kernel_rfl) (by kernel_rfl) ?_ (fun cf => by_fact z1 ((by kernel_rfl)))
  refine WpOps.keep 72 (Value.bool false) (by kernel_rfl) (by kernel_rfl) (by kernel_rfl) ?_ (fun cf => (by kernel_rfl))
  refine WpOps.keep 73 (Value.bool false) (by kernel_rfl) (by kernel_rfl) (by kernel_rfl) ?_ (fun cf => (by kernel_rfl))
  refine WpOps.keep 74 (Value.pointer (some (Addr.mk 1 1 none))) (by kernel_rfl) (by kernel_rfl) (by kernel_rfl) ?_ (fun cf => (by kernel_rfl))
  refine WpOps.keep 75 (Value.iface 3 (Value.iface (List.length (Gr.to (rep x me g k))) (Value.iface (Gr.tx (rep x me g k)) (Value.agg (List.toArray (List.map (fun n => Value.int IntKind.i64 n) (Gr.to (rep x me g k)))))))) (by kernel_rfl) (by kernel_rfl) (by kernel_rfl) ?_ (fun cf => (by kernel_rfl))
  refine WpOps.keep 76 (Value.pointer (some (Addr.mk 0 3 none))) (by kernel_rfl) (by kernel_rfl) (by kernel_rfl) ?_ (fun cf => (by kernel_rfl))
  refine WpOps.keep 77 (Value.pointer (some (Addr.mk 0 3 none))) (by kernel_rfl) (by kernel_rfl) (by kernel_rfl) ?_ (fun cf => (by kernel_rfl))
  refine WpOps.keep 78 (Value.iface 3 (Value.iface (List.length (Gr.fr g)) (Value.iface (Gr.fx g) (Value.agg (List.toArray (List.map (fun n => Value.int IntKind.i64 n) (Gr.fr g))))))) (by kernel_rfl) (by kernel_rfl) (by kernel_rfl) ?_ (fun cf => (by kernel_rfl))
  refine WpOps.framed 79 43 [Value.iface 3 (Value.iface (List.length (Gr.to (rep x me g k))) (Value.iface (Gr.tx (rep x me g k)) (Value.agg (List.toArray (List.map (fun n => Value.int IntKind.i64 n) (Gr.to (rep x me g k))))))), Value.iface 3 (Value.iface (List.length (Gr.fr g)) (Value.iface (Gr.fx g) (Value.agg (List.toArray (List.map (fun n => Value.int IntKind.i64 n) (Gr.fr g))))))] (by kernel_rfl) (by kernel_rfl) (by kernel_rfl) (by kernel_rfl) (by kernel_rfl) (fun cf => (by kernel_rfl)) ?_
  refine WpFun.of (c3) ?_
  refine WpOps.keep 80 (Value.bool false) (by kernel_rfl) (by kernel_rfl) (by kernel_rfl) ?_ (fun cf => (by kernel_rfl))
  refine WpOps.keep 81 (Value.bool false) (by kernel_rfl) (by kernel_rfl) (by kernel_rfl) ?_ (fun cf => (by kernel_rfl))
  refine WpOps.keep 82 (Value.bool false) (by kernel_rfl) (by kernel_rfl) (by kernel_rfl) ?_ (fun cf => (by kernel_rfl))
  refine WpOps.keep 83 (Value.pointer (some (Addr.mk 1 0 none))) (by kernel_rfl) (by kernel_rfl) (by kernel_rfl) ?_ (fun cf => (by kernel_rfl))
  refine WpOps.keep 84 (Value.iface 3 (Value.iface (List.length (Gr.fr (rep x me g k))) (Value.iface (Gr.fx (rep x me g k)) (Value.agg (List.toArray (List.map (fun n => Value.int IntKind.i64 n) (Gr.fr (rep x me g k)))))))) (by kernel_rfl) (by kernel_rfl) (by kernel_rfl) ?_ (fun cf => (by kernel_rfl))
  refine WpOps.keep 85 (Value.pointer (some (Addr.mk 0 0 none))) (by kernel_rfl) (by kernel_rfl) (by kernel_rfl) ?_ (fun cf => (by kernel_rfl))
  refine WpOps.keep 86 (Value.iface 3 (Value.iface (List.length me) (Value.iface x (Value.agg (List.toArray (List.map (fun n => Value.int IntKind.i64 n) me)))))) (by kernel_rfl) (by kernel_rfl) (by kernel_rfl) ?_ (fun cf => (by kernel_rfl))
  refine WpOps.framed 87 43 [Value.iface 3 (Value.iface (List.length (Gr.fr (rep x me g k))) (Value.iface (Gr.fx (rep x me g k)) (Value.agg (List.toArray (List.map (fun n => Value.int IntKind.i64 n) (Gr.fr (rep x me g k))))))), Value.iface 3 (Value.iface (List.length me) (Value.iface x (Value.agg (List.toArray (List.map (fun n => Value.int IntKind.i64 n) me)))))] (by kernel_rfl) (by kernel_rfl) (by kernel_rfl) (by kernel_rfl) (by kernel_rfl) (fun cf => (by kernel_rfl)) ?_
  refine WpFun.of (c4) ?_
  refine WpOps.keep 88 (Value.bool false) (by kernel_rfl) (by kernel_rfl) (by kernel_rfl) ?_ (fun cf => (by kernel_rfl))
  refine WpOps.keep 89 (Value.bool false) (by kernel_rfl) (by kernel_rfl) (by kernel_rfl) ?_ (fun cf => (by kernel_rfl))
  refine WpOps.keep 90 (Value.bool false) (by kernel_rfl) (by kernel_rfl) (by kernel_rfl) ?_ (fun cf => (by kernel_rfl))
  refine WpOps.keep 91 (Value.pointer (some (Addr.mk 1 2 none))) (by kernel_rfl) (by kernel_rfl) (by kernel_rfl) ?_ (fun cf => (by kernel_rfl))
  refine WpOps.keep 92 (Value.int IntKind.i64 (Gr.number (rep x me g k))) (by kernel_rfl) (by kernel_rfl) (by kernel_rfl) ?_ (fun cf => (by kernel_rfl))
  refine WpOps.keep 93 (Value.pointer (some (Addr.mk 0 3 none))) (by kernel_rfl) (by kernel_rfl) (by kernel_rfl) ?_ (fun cf => (by kernel_rfl))
  refine WpOps.keep 94 (Value.pointer (some (Addr.mk 0 5 none))) (by kernel_rfl) (by kernel_rfl) (by kernel_rfl) ?_ (fun cf => (by kernel_rfl))
  refine WpOps.keep 95 (Value.int IntKind.i64 (Gr.number g)) (by kernel_rfl) (by kernel_rfl) (by kernel_rfl) ?_ (fun cf => (by kernel_rfl))
  refine WpOps.keep 96 (Value.bool false) (by kernel_rfl) (by kernel_rfl) (by kernel_rfl) ?_ (fun cf => by_fact z2 ((by kernel_rfl)))
  refine WpOps.keep 97 (Value.bool false) (by kernel_rfl) (by kernel_rfl) (by kernel_rfl) ?_ (fun cf => (by kernel_rfl))
  refine WpOps.nil ?_
  refine thenK_at ?_
  refine Wp.off (by kernel_rfl) ?_
  refine Wp.skip ?_
  refine blockK_norm ?_
  refine thenK_at ?_
  refine Wp.text ?_
  refine WpOps.keep 55 (Value.int IntKind.i64 0) (by kernel_rfl) (by kernel_rfl) (by kernel_rfl) ?_ (fun cf => (by kernel_rfl))
  refine WpOps.keep 56 (Value.int IntKind.i64 (IntKind.wrap IntKind.i64 (0 + 1))) (by kernel_rfl) (by kernel_rfl) (by kernel_rfl) ?_ (fun cf => (by kernel_rfl))
  refine WpOps.keep 7 (Value.int IntKind.i64 (IntKind.wrap IntKind.i64 (0 + 1))) (by kernel_rfl) (by kernel_rfl) (by kernel_rfl) ?_ (fun cf => (by kernel_rfl))
  refine WpOps.nil ?_
  refine thenK_at ?_
  refine WpL.step ?_
  refine Wp.seq ?_
  refine Wp.seq ?_
  refine Wp.text ?_
  refine WpOps.keep 51 (Value.int IntKind.i64 (IntKind.wrap IntKind.i64 (0 + 1))) (by kernel_rfl) (by kernel_rfl) (by kernel_rfl) ?_ (fun cf => (by kernel_rfl))
  refine WpOps.keep 52 (Value.iface 24 (Value.iface (List.length [rep x me g k]) (Value.iface 0 (Value.agg (List.toArray (cellsG [rep x me g k])))))) (by kernel_rfl) (by kernel_rfl) (by kernel_rfl) ?_ (fun cf => (by kernel_rfl))
  refine WpOps.keep 53 (Value.int IntKind.i64 (↑(List.length [rep x me g k]) : Int)) (by kernel_rfl) (by kernel_rfl) (by kernel_rfl) ?_ (fun cf => (by kernel_rfl))
  refine WpOps.keep 54 (Value.bool (decide (IntKind.wrap IntKind.i64 (0 + 1) < (↑(List.length [rep x me g k]) : Int)))) (by kernel_rfl) (by kernel_rfl) (by kernel_rfl) ?_ (fun cf => (by kernel_rfl))
  refine WpOps.nil ?_
  refine thenK_at ?_
  refine Wp.off (by kernel_rfl) ?_
  refine Wp.exit ?_
  refine thenK_exit ?_
  refine thenK_exit ?_
  refine blockK_hit ?_
  refine thenK_at ?_
  refine Wp.seq ?_
  refine Wp.text ?_
  refine WpOps.framed 98 19 [] (by kernel_rfl) (by kernel_rfl) (by kernel_rfl) (by kernel_rfl) (by kernel_rfl) (fun cf => (by kernel_rfl)) ?_
  refine WpFun.of (c1) ?_
  refine WpOps.keep 2 (Value.bool true) (by kernel_rfl) (by kernel_rfl) (by kernel_rfl) ?_ (fun cf => (by kernel_rfl))
  refine WpOps.nil ?_
  refine thenK_at ?_
  refine Wp.ret ?_
  refine endK_retn [Value.bool true] (Value.bool true) (by kernel_rfl) (by kernel_rfl) ?_
  kernel_rfl
end
theorem law13 (x xt xl : Nat) (me : List Int) (l : List En) (ls : List Ln) (g : Gr) (hx : x = 2 → me = []) (hm : me.length ≤ 17592186044416) (hxt : xt = 0 ∨ (xt = 2 ∧ l = [])) (ok : ∀ e ∈ l, OkEn e) (og : OkGr g) (hls : ls.length ≤ 17592186044416) : Fun E 13 [fcV x xt xl me l ls g] (.bool true) := by
  have c := forward36 x xt xl me l ls g hm hxt ok og hls hx
  obtain ⟨out, line, back, err, h1, h2⟩ := fw_back x me l ls g
  rw [h1] at c
  rcases h2 with ⟨he, rfl⟩ | ⟨rfl, rfl⟩ | ⟨rfl, ho, hw, k, k1, k2, rfl⟩
  · exact law13_err x xt xl me l ls g out line err he c
  · exact law13_none x xt xl me l ls g out line c
  · exact law13_one x xt xl me l ls g out line k k1 k2 hw hm og ho c
end Go.Proofs.Ytpkkcpglbjbgfaa.D
