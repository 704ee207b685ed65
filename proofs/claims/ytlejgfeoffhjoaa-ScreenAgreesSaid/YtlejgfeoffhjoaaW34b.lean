/- A world is updated. -/
import Derived.Test.YtlejgfeoffhjoaaFwLem
import Derived.Test.YtlejgfeoffhjoaaFwHole
import Derived.Test.YtlejgfeoffhjoaaFwHoleL
import Derived.Test.YtlejgfeoffhjoaaW34a
namespace Go.Proofs.Ytlejgfeoffhjoaa.D
open Go.Fw Go.RowKit

/-- The update as it is done: a text bears the side's mark. -/
def Up.eff (u : Up) (mark : Int) : Up := if u.op = 1 then ⟨u.op, u.row, u.col, mark, u.t⟩ else u
theorem eff_op (u : Up) (k : Int) : (u.eff k).op = u.op := by
  unfold Up.eff
  split <;> rfl
theorem eff_row (u : Up) (k : Int) : (u.eff k).row = u.row := by
  unfold Up.eff
  split <;> rfl
theorem eff_col (u : Up) (k : Int) : (u.eff k).col = u.col := by
  unfold Up.eff
  split <;> rfl
theorem eff_t (u : Up) (k : Int) : (u.eff k).t = u.t := by
  unfold Up.eff
  split <;> rfl
def Dsp.good (d : Dsp) : Prop := Good d.r d.m d.i d.j
def Dsp.fits (d : Dsp) (u : Up) : Prop := Fits d.r.length (rowAt d.r 0).size u.op u.row u.col u.n u.t
instance (d : Dsp) (u : Up) : Decidable (d.fits u) := inferInstanceAs (Decidable (Fits ..))
/-- An update that fits, done. -/
def Dsp.ap (d : Dsp) (u : Up) : Dsp := ⟨mkR d.r.length (rowAt d.r 0).size (apD d.r d.m d.i d.j u.op u.row u.col u.n u.t).f, mkR d.r.length (rowAt d.r 0).size (apD d.r d.m d.i d.j u.op u.row u.col u.n u.t).g, (apD d.r d.m d.i d.j u.op u.row u.col u.n u.t).i, (apD d.r d.m d.i d.j u.op u.row u.col u.n u.t).j⟩
theorem fitsD (d : Dsp) (u : Up) (hg : d.good) (ht : u.t.size ≤ 140737488351232) : Fun E 39 [d.v, u.v] (.bool (decide (d.fits u))) := fits39 0 0 d.r d.m d.i d.j u.op u.row u.col u.n u.t ht hg.1.1 hg.1.2.2.1
theorem applyD (d : Dsp) (u : Up) (hg : d.good) (hf : d.fits u) : Fun E 40 [d.v, u.v] (d.ap u).v := apply40 0 0 d.r d.m d.i d.j u.op u.row u.col u.n u.t (by decide) (by decide) hg hf
theorem f22 : E.funcs 22 = some Try.f22 := by kernel_rfl
theorem upd22_F0 (t : Int) (y : Wy) (a b : Sd) (l : List Up) (wa wb : Value) (ha : Stay 3 wa) (hb : Stay 3 wb)  (u : Up) (hf : ¬ a.shown.fits (u.eff a.mark)) (ht : u.t.size ≤ 140737488351232) (hg : a.shown.good) :
    SCall E 22 [.pointer (some ⟨0, 0, none⟩), .int .i64 0, u.v] (heapO [some (wB t (wyV y)), some (sdB a b (wa) (wb)), wyB y, qO l]) (.int .i64 1) (heapO [some (wB t (wyV y)), some (sdB a b (wa) (wb)), wyB y, qO l]) := by
  have c39 := fitsD a.shown (u.eff a.mark) hg (by rw [eff_t]; exact ht)
  rw [decide_eq_false hf] at c39
  refine SCall.enterO f22 rfl (of_decide_eq_true (by kernel_rfl)) (own4 y l) (own4 y l) (Nat.le_refl _) ?_
  have h0 : ∀ z : Value, z = z := fun _ => rfl
  unfold Up.v uv
  unfold wB sdB
  refine Wp.seq (Wp.text (md 5 (.pointer (some ⟨4, 0, none⟩)) (Blk.mk 26 true [Value.int .i64 (Up.op u), Value.int .i64 (Up.row u), Value.int .i64 (Up.col u), Value.int .i64 (Up.n u), Value.string (Up.t u)]) (kp 6 (.int .i64 0) (WpOps.nil (thenK_at (Wp.seq (Wp.seq (Wp.text (kp 8 (.pointer (some ⟨0, 0, none⟩)) (kp 9 (.int .i64 0) (cl 10 49 [Value.pointer (some ⟨0, 0, none⟩), Value.int .i64 0] ?_)))))))))))
  refine WpCall.side0 (by kernel_rfl) ?_
  refine kp 11 (.bool false) (WpOps.nil (thenK_at (off' (Wp.skip (thenK_at (Wp.seq (Wp.text (kp 12 (.pointer (some ⟨0, 0, none⟩)) (kp 13 (.pointer (some ⟨0, 0, none⟩)) (kp 14 (.pointer (some ⟨0, 0, none⟩)) (kp 15 (.slice (some ⟨1, 0, none⟩) 2 2) (kp 16 (.int .i64 0) (kp 17 (.pointer (some ⟨1, 0, none⟩)) (kp 7 (.pointer (some ⟨1, 0, none⟩)) (WpOps.nil (thenK_at (Wp.seq (Wp.seq (Wp.text (kp 18 (.pointer (some ⟨4, 0, none⟩)) (kp 19 (.int .i64 (Up.op u)) (kp 20 (.bool (Up.op u == 1)) (WpOps.nil (thenK_at ?_))))))))))))))))))))))))
  refine Wp.mergeH [(0, .pointer (some ⟨0, 0, none⟩)), (1, .int .i64 0), (5, .pointer (some ⟨4, 0, none⟩)), (6, .int .i64 0), (7, .pointer (some ⟨1, 0, none⟩))] (heapO [some (wB t (wyV y)), some (sdB a b (wa) (wb)), wyB y, qO l, some ⟨26, true, uc (u.eff a.mark)⟩]) ?_ ?_
  · refine Wp.split (Up.op u == 1) (by kernel_rfl) (fun he => ?_) (fun he => ?_)
    · have hu : u.op = 1 := by simpa using he
      have ee : uc (u.eff a.mark) = [.int .i64 u.op, .int .i64 u.row, .int .i64 u.col, .int .i64 a.mark, .string u.t] := by unfold Up.eff; rw [if_pos hu]; rfl
      rw [ee]
      refine Wp.text (kp 21 (.pointer (some ⟨1, 0, none⟩)) (kp 22 (.pointer (some ⟨1, 0, none⟩)) (kp 23 (.pointer (some ⟨1, 8, none⟩)) (kp 24 (.int .i64 (Sd.mark a)) (kp 25 (.pointer (some ⟨4, 3, none⟩)) (ld (.tuple #[]) (4) (Blk.mk 26 true [Value.int .i64 (Up.op u), Value.int .i64 (Up.row u), Value.int .i64 (Up.col u), Value.int .i64 (Sd.mark a), Value.string (Up.t u)]) (WpOps.nil ?_)))))))
      exact ⟨rfl, viewW (by kernel_rfl) (by kernel_rfl) (stay_wy y) ha hb (optWy y (by kernel_rfl)) (optQ l (by kernel_rfl)) (optS (by kernel_rfl) rfl) ⟨⟨by kernel_rfl, rfl⟩, ⟨by kernel_rfl, rfl⟩, ⟨by kernel_rfl, rfl⟩, ⟨by kernel_rfl, rfl⟩, ⟨by kernel_rfl, rfl⟩, trivial⟩⟩
    · have hu : ¬ u.op = 1 := by simpa using he
      have ee : uc (u.eff a.mark) = [.int .i64 u.op, .int .i64 u.row, .int .i64 u.col, .int .i64 u.n, .string u.t] := by unfold Up.eff; rw [if_neg hu]; rfl
      rw [ee]
      refine Wp.skip ?_
      exact ⟨rfl, viewW (by kernel_rfl) (by kernel_rfl) (stay_wy y) ha hb (optWy y (by kernel_rfl)) (optQ l (by kernel_rfl)) (optS (by kernel_rfl) rfl) ⟨⟨by kernel_rfl, rfl⟩, ⟨by kernel_rfl, rfl⟩, ⟨by kernel_rfl, rfl⟩, ⟨by kernel_rfl, rfl⟩, ⟨by kernel_rfl, rfl⟩, trivial⟩⟩
  have eop : (u.eff a.mark).op = u.op := eff_op u _
  generalize (u.eff a.mark) = z at *
  unfold Dsp.v dv Up.v uv at c39
  unfold wB sdB uc
  refine Wp.seq (Wp.block (Wp.seq (Wp.region (by kernel_rfl) (kp 27 (.pointer (some ⟨1, 0, none⟩)) (kp 28 (.pointer (some ⟨1, 0, none⟩)) (kp 29 (.pointer (some ⟨1, 0, none⟩)) (kp 30 (.agg #[strs 0 (Dsp.r (Sd.shown a)), strs 0 (Dsp.m (Sd.shown a)), Value.int .i64 (Dsp.i (Sd.shown a)), Value.int .i64 (Dsp.j (Sd.shown a))]) (kp 31 (.agg #[Value.int .i64 (Up.op z), Value.int .i64 (Up.row z), Value.int .i64 (Up.col z), Value.int .i64 (Up.n z), Value.string (Up.t z)]) (fr 32 39 [Value.agg #[strs 0 (Dsp.r (Sd.shown a)), strs 0 (Dsp.m (Sd.shown a)), Value.int .i64 (Dsp.i (Sd.shown a)), Value.int .i64 (Dsp.j (Sd.shown a))], Value.agg #[Value.int .i64 (Up.op z), Value.int .i64 (Up.row z), Value.int .i64 (Up.col z), Value.int .i64 (Up.n z), Value.string (Up.t z)]] (WpFun.of (c39) (kp 33 (.bool true) (kp 26 (.bool true) (WpOps.nil (thenK_at (on' (Wp.seq (Wp.text (kp 6 (.int .i64 1) (WpOps.nil (thenK_at (Wp.ret (blockK_ret (thenK_ret (endK_retn [Value.int .i64 1] (Value.int .i64 1) (by kernel_rfl) (by kernel_rfl) ?_))))))))))))))))))))))))
  exact endW (by kernel_rfl) (by kernel_rfl) (stay_wy y) ha hb (optWy y (by kernel_rfl)) (optQ l (by kernel_rfl)) (.w (.un rfl rfl))
theorem upd22_T0 (t : Int) (y : Wy) (a b : Sd) (l : List Up) (wa wb : Value) (ha : Stay 3 wa) (hb : Stay 3 wb)  (u : Up) (hf : a.shown.fits (u.eff a.mark)) (hn : ¬ t = 0) (ht : u.t.size ≤ 140737488351232) (hg : a.shown.good) :
    SCall E 22 [.pointer (some ⟨0, 0, none⟩), .int .i64 0, u.v] (heapO [some (wB t (wyV y)), some (sdB a b (wa) (wb)), wyB y, qO l]) (.int .i64 8) (heapO [some (wB t (wyV y)), some (sdB a b (wa) (wb)), wyB y, qO l]) := by
  have dn : (t != 0) = true := by simpa using hn
  have c39 := fitsD a.shown (u.eff a.mark) hg (by rw [eff_t]; exact ht)
  rw [decide_eq_true hf] at c39
  refine SCall.enterO f22 rfl (of_decide_eq_true (by kernel_rfl)) (own4 y l) (own4 y l) (Nat.le_refl _) ?_
  have h0 : ∀ z : Value, z = z := fun _ => rfl
  unfold Up.v uv
  unfold wB sdB
  refine Wp.seq (Wp.text (md 5 (.pointer (some ⟨4, 0, none⟩)) (Blk.mk 26 true [Value.int .i64 (Up.op u), Value.int .i64 (Up.row u), Value.int .i64 (Up.col u), Value.int .i64 (Up.n u), Value.string (Up.t u)]) (kp 6 (.int .i64 0) (WpOps.nil (thenK_at (Wp.seq (Wp.seq (Wp.text (kp 8 (.pointer (some ⟨0, 0, none⟩)) (kp 9 (.int .i64 0) (cl 10 49 [Value.pointer (some ⟨0, 0, none⟩), Value.int .i64 0] ?_)))))))))))
  refine WpCall.side0 (by kernel_rfl) ?_
  refine kp 11 (.bool false) (WpOps.nil (thenK_at (off' (Wp.skip (thenK_at (Wp.seq (Wp.text (kp 12 (.pointer (some ⟨0, 0, none⟩)) (kp 13 (.pointer (some ⟨0, 0, none⟩)) (kp 14 (.pointer (some ⟨0, 0, none⟩)) (kp 15 (.slice (some ⟨1, 0, none⟩) 2 2) (kp 16 (.int .i64 0) (kp 17 (.pointer (some ⟨1, 0, none⟩)) (kp 7 (.pointer (some ⟨1, 0, none⟩)) (WpOps.nil (thenK_at (Wp.seq (Wp.seq (Wp.text (kp 18 (.pointer (some ⟨4, 0, none⟩)) (kp 19 (.int .i64 (Up.op u)) (kp 20 (.bool (Up.op u == 1)) (WpOps.nil (thenK_at ?_))))))))))))))))))))))))
  refine Wp.mergeH [(0, .pointer (some ⟨0, 0, none⟩)), (1, .int .i64 0), (5, .pointer (some ⟨4, 0, none⟩)), (6, .int .i64 0), (7, .pointer (some ⟨1, 0, none⟩))] (heapO [some (wB t (wyV y)), some (sdB a b (wa) (wb)), wyB y, qO l, some ⟨26, true, uc (u.eff a.mark)⟩]) ?_ ?_
  · refine Wp.split (Up.op u == 1) (by kernel_rfl) (fun he => ?_) (fun he => ?_)
    · have hu : u.op = 1 := by simpa using he
      have ee : uc (u.eff a.mark) = [.int .i64 u.op, .int .i64 u.row, .int .i64 u.col, .int .i64 a.mark, .string u.t] := by unfold Up.eff; rw [if_pos hu]; rfl
      rw [ee]
      refine Wp.text (kp 21 (.pointer (some ⟨1, 0, none⟩)) (kp 22 (.pointer (some ⟨1, 0, none⟩)) (kp 23 (.pointer (some ⟨1, 8, none⟩)) (kp 24 (.int .i64 (Sd.mark a)) (kp 25 (.pointer (some ⟨4, 3, none⟩)) (ld (.tuple #[]) (4) (Blk.mk 26 true [Value.int .i64 (Up.op u), Value.int .i64 (Up.row u), Value.int .i64 (Up.col u), Value.int .i64 (Sd.mark a), Value.string (Up.t u)]) (WpOps.nil ?_)))))))
      exact ⟨rfl, viewW (by kernel_rfl) (by kernel_rfl) (stay_wy y) ha hb (optWy y (by kernel_rfl)) (optQ l (by kernel_rfl)) (optS (by kernel_rfl) rfl) ⟨⟨by kernel_rfl, rfl⟩, ⟨by kernel_rfl, rfl⟩, ⟨by kernel_rfl, rfl⟩, ⟨by kernel_rfl, rfl⟩, ⟨by kernel_rfl, rfl⟩, trivial⟩⟩
    · have hu : ¬ u.op = 1 := by simpa using he
      have ee : uc (u.eff a.mark) = [.int .i64 u.op, .int .i64 u.row, .int .i64 u.col, .int .i64 u.n, .string u.t] := by unfold Up.eff; rw [if_neg hu]; rfl
      rw [ee]
      refine Wp.skip ?_
      exact ⟨rfl, viewW (by kernel_rfl) (by kernel_rfl) (stay_wy y) ha hb (optWy y (by kernel_rfl)) (optQ l (by kernel_rfl)) (optS (by kernel_rfl) rfl) ⟨⟨by kernel_rfl, rfl⟩, ⟨by kernel_rfl, rfl⟩, ⟨by kernel_rfl, rfl⟩, ⟨by kernel_rfl, rfl⟩, ⟨by kernel_rfl, rfl⟩, trivial⟩⟩
  have eop : (u.eff a.mark).op = u.op := eff_op u _
  generalize (u.eff a.mark) = z at *
  unfold Dsp.v dv Up.v uv at c39
  unfold wB sdB uc
  refine Wp.seq (Wp.block (Wp.seq (Wp.region (by kernel_rfl) (kp 27 (.pointer (some ⟨1, 0, none⟩)) (kp 28 (.pointer (some ⟨1, 0, none⟩)) (kp 29 (.pointer (some ⟨1, 0, none⟩)) (kp 30 (.agg #[strs 0 (Dsp.r (Sd.shown a)), strs 0 (Dsp.m (Sd.shown a)), Value.int .i64 (Dsp.i (Sd.shown a)), Value.int .i64 (Dsp.j (Sd.shown a))]) (kp 31 (.agg #[Value.int .i64 (Up.op z), Value.int .i64 (Up.row z), Value.int .i64 (Up.col z), Value.int .i64 (Up.n z), Value.string (Up.t z)]) (fr 32 39 [Value.agg #[strs 0 (Dsp.r (Sd.shown a)), strs 0 (Dsp.m (Sd.shown a)), Value.int .i64 (Dsp.i (Sd.shown a)), Value.int .i64 (Dsp.j (Sd.shown a))], Value.agg #[Value.int .i64 (Up.op z), Value.int .i64 (Up.row z), Value.int .i64 (Up.col z), Value.int .i64 (Up.n z), Value.string (Up.t z)]] (WpFun.of (c39) (kp 33 (.bool false) (kp 26 (.bool false) (WpOps.nil (thenK_at (off' (Wp.seq (Wp.text (kp 35 (.pointer (some ⟨0, 0, none⟩)) (kp 36 (.pointer (some ⟨0, 0, none⟩)) (kp 37 (.pointer (some ⟨0, 1, none⟩)) (kp 38 (.int .i64 t) ?_)))))))))))))))))))))
  refine kp 39 (.int .i64 0) (kp 40 (.bool true) (kp 34 (.bool true) (WpOps.nil (thenK_at (on' (Wp.seq (Wp.text (kp 6 (.int .i64 8) (WpOps.nil (thenK_at (Wp.ret (blockK_ret (thenK_ret (endK_retn [Value.int .i64 8] (Value.int .i64 8) (by kernel_rfl) (by kernel_rfl) ?_))))))))))))) (hop := fun _ => by_fact dn))
  exact endW (by kernel_rfl) (by kernel_rfl) (stay_wy y) ha hb (optWy y (by kernel_rfl)) (optQ l (by kernel_rfl)) (.w (.un rfl rfl))
theorem upd22_U0 (y : Wy) (a b : Sd) (l : List Up) (hl : 100 ≤ l.length) (hl2 : l.length ≤ 1000) (u : Up) (hf : a.shown.fits (u.eff a.mark)) (ht : u.t.size ≤ 140737488351232) (hg : a.shown.good) :
    SCall E 22 [.pointer (some ⟨0, 0, none⟩), .int .i64 0, u.v] (heapO [some (wB 0 (wyV y)), some (sdB a b (.slice (some ⟨3, 0, none⟩) l.length l.length) (.slice none 0 0)), wyB y, some (qB l)]) (.int .i64 9) (heapO [some (wB 0 (wyV y)), some (sdB a b (.slice (some ⟨3, 0, none⟩) l.length l.length) (.slice none 0 0)), wyB y, some (qB l)]) := by
  have dl : decide ((l.length : Int) ≥ 100) = true := decide_eq_true (by omega)
  have hfl : (qB l).cells.all flat = true := ucs_flat l
  have c39 := fitsD a.shown (u.eff a.mark) hg (by rw [eff_t]; exact ht)
  rw [decide_eq_true hf] at c39
  refine SCall.enterO f22 rfl (of_decide_eq_true (by kernel_rfl)) (by cases y <;> rfl) (by cases y <;> rfl) (Nat.le_refl _) ?_
  have h0 : ∀ z : Value, z = z := fun _ => rfl
  unfold Up.v uv
  unfold wB sdB
  refine Wp.seq (Wp.text (md 5 (.pointer (some ⟨4, 0, none⟩)) (Blk.mk 26 true [Value.int .i64 (Up.op u), Value.int .i64 (Up.row u), Value.int .i64 (Up.col u), Value.int .i64 (Up.n u), Value.string (Up.t u)]) (kp 6 (.int .i64 0) (WpOps.nil (thenK_at (Wp.seq (Wp.seq (Wp.text (kp 8 (.pointer (some ⟨0, 0, none⟩)) (kp 9 (.int .i64 0) (cl 10 49 [Value.pointer (some ⟨0, 0, none⟩), Value.int .i64 0] ?_)))))))))))
  refine WpCall.side0 (by kernel_rfl) ?_
  refine kp 11 (.bool false) (WpOps.nil (thenK_at (off' (Wp.skip (thenK_at (Wp.seq (Wp.text (kp 12 (.pointer (some ⟨0, 0, none⟩)) (kp 13 (.pointer (some ⟨0, 0, none⟩)) (kp 14 (.pointer (some ⟨0, 0, none⟩)) (kp 15 (.slice (some ⟨1, 0, none⟩) 2 2) (kp 16 (.int .i64 0) (kp 17 (.pointer (some ⟨1, 0, none⟩)) (kp 7 (.pointer (some ⟨1, 0, none⟩)) (WpOps.nil (thenK_at (Wp.seq (Wp.seq (Wp.text (kp 18 (.pointer (some ⟨4, 0, none⟩)) (kp 19 (.int .i64 (Up.op u)) (kp 20 (.bool (Up.op u == 1)) (WpOps.nil (thenK_at ?_))))))))))))))))))))))))
  refine Wp.mergeH [(0, .pointer (some ⟨0, 0, none⟩)), (1, .int .i64 0), (5, .pointer (some ⟨4, 0, none⟩)), (6, .int .i64 0), (7, .pointer (some ⟨1, 0, none⟩))] (heapO [some (wB 0 (wyV y)), some (sdB a b (.slice (some ⟨3, 0, none⟩) l.length l.length) (.slice none 0 0)), wyB y, some (qB l), some ⟨26, true, uc (u.eff a.mark)⟩]) ?_ ?_
  · refine Wp.split (Up.op u == 1) (by kernel_rfl) (fun he => ?_) (fun he => ?_)
    · have hu : u.op = 1 := by simpa using he
      have ee : uc (u.eff a.mark) = [.int .i64 u.op, .int .i64 u.row, .int .i64 u.col, .int .i64 a.mark, .string u.t] := by unfold Up.eff; rw [if_pos hu]; rfl
      rw [ee]
      refine Wp.text (kp 21 (.pointer (some ⟨1, 0, none⟩)) (kp 22 (.pointer (some ⟨1, 0, none⟩)) (kp 23 (.pointer (some ⟨1, 8, none⟩)) (kp 24 (.int .i64 (Sd.mark a)) (kp 25 (.pointer (some ⟨4, 3, none⟩)) (ld (.tuple #[]) (4) (Blk.mk 26 true [Value.int .i64 (Up.op u), Value.int .i64 (Up.row u), Value.int .i64 (Up.col u), Value.int .i64 (Sd.mark a), Value.string (Up.t u)]) (WpOps.nil ?_)))))))
      exact ⟨rfl, viewW (by kernel_rfl) (by kernel_rfl) (stay_wy y) (stay_sl 3 0 _ _) (stay_nil 3) (optWy y (by kernel_rfl)) (optS (by kernel_rfl) (ucs_flat l)) (optS (by kernel_rfl) rfl) ⟨⟨by kernel_rfl, rfl⟩, ⟨by kernel_rfl, rfl⟩, ⟨by kernel_rfl, rfl⟩, ⟨by kernel_rfl, rfl⟩, ⟨by kernel_rfl, rfl⟩, trivial⟩⟩
    · have hu : ¬ u.op = 1 := by simpa using he
      have ee : uc (u.eff a.mark) = [.int .i64 u.op, .int .i64 u.row, .int .i64 u.col, .int .i64 u.n, .string u.t] := by unfold Up.eff; rw [if_neg hu]; rfl
      rw [ee]
      refine Wp.skip ?_
      exact ⟨rfl, viewW (by kernel_rfl) (by kernel_rfl) (stay_wy y) (stay_sl 3 0 _ _) (stay_nil 3) (optWy y (by kernel_rfl)) (optS (by kernel_rfl) (ucs_flat l)) (optS (by kernel_rfl) rfl) ⟨⟨by kernel_rfl, rfl⟩, ⟨by kernel_rfl, rfl⟩, ⟨by kernel_rfl, rfl⟩, ⟨by kernel_rfl, rfl⟩, ⟨by kernel_rfl, rfl⟩, trivial⟩⟩
  have eop : (u.eff a.mark).op = u.op := eff_op u _
  generalize (u.eff a.mark) = z at *
  unfold Dsp.v dv Up.v uv at c39
  unfold wB sdB uc
  refine Wp.seq (Wp.block (Wp.seq (Wp.region (by kernel_rfl) (kp 27 (.pointer (some ⟨1, 0, none⟩)) (kp 28 (.pointer (some ⟨1, 0, none⟩)) (kp 29 (.pointer (some ⟨1, 0, none⟩)) (kp 30 (.agg #[strs 0 (Dsp.r (Sd.shown a)), strs 0 (Dsp.m (Sd.shown a)), Value.int .i64 (Dsp.i (Sd.shown a)), Value.int .i64 (Dsp.j (Sd.shown a))]) (kp 31 (.agg #[Value.int .i64 (Up.op z), Value.int .i64 (Up.row z), Value.int .i64 (Up.col z), Value.int .i64 (Up.n z), Value.string (Up.t z)]) (fr 32 39 [Value.agg #[strs 0 (Dsp.r (Sd.shown a)), strs 0 (Dsp.m (Sd.shown a)), Value.int .i64 (Dsp.i (Sd.shown a)), Value.int .i64 (Dsp.j (Sd.shown a))], Value.agg #[Value.int .i64 (Up.op z), Value.int .i64 (Up.row z), Value.int .i64 (Up.col z), Value.int .i64 (Up.n z), Value.string (Up.t z)]] (WpFun.of (c39) (kp 33 (.bool false) (kp 26 (.bool false) (WpOps.nil (thenK_at (off' (Wp.seq (Wp.text (kp 35 (.pointer (some ⟨0, 0, none⟩)) (kp 36 (.pointer (some ⟨0, 0, none⟩)) (kp 37 (.pointer (some ⟨0, 1, none⟩)) (kp 38 (.int .i64 0) ?_)))))))))))))))))))))
  refine kp 39 (.int .i64 0) (kp 40 (.bool false) (kp 34 (.bool false) (WpOps.nil (thenK_at (off' (Wp.seq (Wp.text (kp 42 (.pointer (some ⟨1, 0, none⟩)) (kp 43 (.pointer (some ⟨1, 0, none⟩)) (kp 44 (.pointer (some ⟨1, 9, none⟩)) (kp 45 (.slice (some ⟨3, 0, none⟩) (List.length l) (List.length l)) (kp 46 (.int .i64 (List.length l)) (kp 47 (.bool true) (kp 41 (.bool true) (WpOps.nil (thenK_at (on' (Wp.seq (Wp.text (kp 6 (.int .i64 9) (WpOps.nil (thenK_at (Wp.ret (blockK_ret (thenK_ret (endK_retn [Value.int .i64 9] (Value.int .i64 9) (by kernel_rfl) (by kernel_rfl) ?_))))))))))))) (hop := fun _ => by_fact dl))))))))))))))
  exact endW (by kernel_rfl) (by kernel_rfl) (stay_wy y) (stay_sl 3 0 _ _) (stay_nil 3) (optWy y (by kernel_rfl)) (optS (by kernel_rfl) (ucs_flat l)) (.w (.un rfl rfl))
theorem upd22_N0 (y : Wy) (a b : Sd)  (u : Up) (hf : a.shown.fits (u.eff a.mark)) (ht : u.t.size ≤ 140737488351232) (hg : a.shown.good) :
    SCall E 22 [.pointer (some ⟨0, 0, none⟩), .int .i64 0, u.v] (heapO [some (wB 0 (wyV y)), some (sdB a b (.slice none 0 0) (.slice none 0 0)), wyB y, none]) (.int .i64 0) (heapO [some (wB 0 (wyV y)), some (sdB ⟨a.shown.ap (u.eff a.mark), a.kept, (if u.op = 4 then (u.eff a.mark).n else a.mark)⟩ b (.slice (some ⟨4, 0, none⟩) [u.eff a.mark].length [u.eff a.mark].length) (.slice none 0 0)), wyB y, none, some (qB [u.eff a.mark])]) := by
  have c40 := applyD a.shown (u.eff a.mark) hg hf
  have c39 := fitsD a.shown (u.eff a.mark) hg (by rw [eff_t]; exact ht)
  rw [decide_eq_true hf] at c39
  refine SCall.enterO f22 rfl (of_decide_eq_true (by kernel_rfl)) (by cases y <;> rfl) (by cases y <;> rfl) (Nat.le_succ _) ?_
  have h0 : ∀ z : Value, z = z := fun _ => rfl
  unfold Up.v uv
  unfold wB sdB
  refine Wp.seq (Wp.text (md 5 (.pointer (some ⟨4, 0, none⟩)) (Blk.mk 26 true [Value.int .i64 (Up.op u), Value.int .i64 (Up.row u), Value.int .i64 (Up.col u), Value.int .i64 (Up.n u), Value.string (Up.t u)]) (kp 6 (.int .i64 0) (WpOps.nil (thenK_at (Wp.seq (Wp.seq (Wp.text (kp 8 (.pointer (some ⟨0, 0, none⟩)) (kp 9 (.int .i64 0) (cl 10 49 [Value.pointer (some ⟨0, 0, none⟩), Value.int .i64 0] ?_)))))))))))
  refine WpCall.side0 (by kernel_rfl) ?_
  refine kp 11 (.bool false) (WpOps.nil (thenK_at (off' (Wp.skip (thenK_at (Wp.seq (Wp.text (kp 12 (.pointer (some ⟨0, 0, none⟩)) (kp 13 (.pointer (some ⟨0, 0, none⟩)) (kp 14 (.pointer (some ⟨0, 0, none⟩)) (kp 15 (.slice (some ⟨1, 0, none⟩) 2 2) (kp 16 (.int .i64 0) (kp 17 (.pointer (some ⟨1, 0, none⟩)) (kp 7 (.pointer (some ⟨1, 0, none⟩)) (WpOps.nil (thenK_at (Wp.seq (Wp.seq (Wp.text (kp 18 (.pointer (some ⟨4, 0, none⟩)) (kp 19 (.int .i64 (Up.op u)) (kp 20 (.bool (Up.op u == 1)) (WpOps.nil (thenK_at ?_))))))))))))))))))))))))
  refine Wp.mergeH [(0, .pointer (some ⟨0, 0, none⟩)), (1, .int .i64 0), (5, .pointer (some ⟨4, 0, none⟩)), (6, .int .i64 0), (7, .pointer (some ⟨1, 0, none⟩))] (heapO [some (wB 0 (wyV y)), some (sdB a b (.slice none 0 0) (.slice none 0 0)), wyB y, none, some ⟨26, true, uc (u.eff a.mark)⟩]) ?_ ?_
  · refine Wp.split (Up.op u == 1) (by kernel_rfl) (fun he => ?_) (fun he => ?_)
    · have hu : u.op = 1 := by simpa using he
      have ee : uc (u.eff a.mark) = [.int .i64 u.op, .int .i64 u.row, .int .i64 u.col, .int .i64 a.mark, .string u.t] := by unfold Up.eff; rw [if_pos hu]; rfl
      rw [ee]
      refine Wp.text (kp 21 (.pointer (some ⟨1, 0, none⟩)) (kp 22 (.pointer (some ⟨1, 0, none⟩)) (kp 23 (.pointer (some ⟨1, 8, none⟩)) (kp 24 (.int .i64 (Sd.mark a)) (kp 25 (.pointer (some ⟨4, 3, none⟩)) (ld (.tuple #[]) (4) (Blk.mk 26 true [Value.int .i64 (Up.op u), Value.int .i64 (Up.row u), Value.int .i64 (Up.col u), Value.int .i64 (Sd.mark a), Value.string (Up.t u)]) (WpOps.nil ?_)))))))
      exact ⟨rfl, viewW (by kernel_rfl) (by kernel_rfl) (stay_wy y) (stay_nil 3) (stay_nil 3) (optWy y (by kernel_rfl)) (optN _ _) (optS (by kernel_rfl) rfl) ⟨⟨by kernel_rfl, rfl⟩, ⟨by kernel_rfl, rfl⟩, ⟨by kernel_rfl, rfl⟩, ⟨by kernel_rfl, rfl⟩, ⟨by kernel_rfl, rfl⟩, trivial⟩⟩
    · have hu : ¬ u.op = 1 := by simpa using he
      have ee : uc (u.eff a.mark) = [.int .i64 u.op, .int .i64 u.row, .int .i64 u.col, .int .i64 u.n, .string u.t] := by unfold Up.eff; rw [if_neg hu]; rfl
      rw [ee]
      refine Wp.skip ?_
      exact ⟨rfl, viewW (by kernel_rfl) (by kernel_rfl) (stay_wy y) (stay_nil 3) (stay_nil 3) (optWy y (by kernel_rfl)) (optN _ _) (optS (by kernel_rfl) rfl) ⟨⟨by kernel_rfl, rfl⟩, ⟨by kernel_rfl, rfl⟩, ⟨by kernel_rfl, rfl⟩, ⟨by kernel_rfl, rfl⟩, ⟨by kernel_rfl, rfl⟩, trivial⟩⟩
  have eop : (u.eff a.mark).op = u.op := eff_op u _
  generalize (u.eff a.mark) = z at *
  unfold Dsp.v dv Up.v uv at c39 c40
  unfold wB sdB uc
  refine Wp.seq (Wp.block (Wp.seq (Wp.region (by kernel_rfl) (kp 27 (.pointer (some ⟨1, 0, none⟩)) (kp 28 (.pointer (some ⟨1, 0, none⟩)) (kp 29 (.pointer (some ⟨1, 0, none⟩)) (kp 30 (.agg #[strs 0 (Dsp.r (Sd.shown a)), strs 0 (Dsp.m (Sd.shown a)), Value.int .i64 (Dsp.i (Sd.shown a)), Value.int .i64 (Dsp.j (Sd.shown a))]) (kp 31 (.agg #[Value.int .i64 (Up.op z), Value.int .i64 (Up.row z), Value.int .i64 (Up.col z), Value.int .i64 (Up.n z), Value.string (Up.t z)]) (fr 32 39 [Value.agg #[strs 0 (Dsp.r (Sd.shown a)), strs 0 (Dsp.m (Sd.shown a)), Value.int .i64 (Dsp.i (Sd.shown a)), Value.int .i64 (Dsp.j (Sd.shown a))], Value.agg #[Value.int .i64 (Up.op z), Value.int .i64 (Up.row z), Value.int .i64 (Up.col z), Value.int .i64 (Up.n z), Value.string (Up.t z)]] (WpFun.of (c39) (kp 33 (.bool false) (kp 26 (.bool false) (WpOps.nil (thenK_at (off' (Wp.seq (Wp.text (kp 35 (.pointer (some ⟨0, 0, none⟩)) (kp 36 (.pointer (some ⟨0, 0, none⟩)) (kp 37 (.pointer (some ⟨0, 1, none⟩)) (kp 38 (.int .i64 0) ?_)))))))))))))))))))))
  refine kp 39 (.int .i64 0) (kp 40 (.bool false) (kp 34 (.bool false) (WpOps.nil (thenK_at (off' (Wp.seq (Wp.text (kp 42 (.pointer (some ⟨1, 0, none⟩)) (kp 43 (.pointer (some ⟨1, 0, none⟩)) (kp 44 (.pointer (some ⟨1, 9, none⟩)) (kp 45 (.slice none 0 0) (kp 46 (.int .i64 (↑0 : Int)) (kp 47 (.bool false) (kp 41 (.bool false) (WpOps.nil (thenK_at (off' (Wp.skip (blockK_norm (thenK_at (Wp.seq (Wp.seq (Wp.text (kp 48 (.pointer (some ⟨4, 0, none⟩)) (kp 49 (.int .i64 (Up.op z)) (kp 50 (.bool (Up.op z == 4)) (WpOps.nil (thenK_at ?_))))))))))))))))))))))))))))
  refine Wp.mergeH [(0, .pointer (some ⟨0, 0, none⟩)), (1, .int .i64 0), (5, .pointer (some ⟨4, 0, none⟩)), (6, .int .i64 0), (7, .pointer (some ⟨1, 0, none⟩))] (heapO [some (wB 0 (wyV y)), some (sdB ⟨a.shown, a.kept, (if u.op = 4 then z.n else a.mark)⟩ b (.slice none 0 0) (.slice none 0 0)), wyB y, none, some ⟨26, true, uc z⟩]) ?_ ?_
  · refine Wp.split (Up.op z == 4) (by kernel_rfl) (fun he => ?_) (fun he => ?_)
    · have hu : u.op = 4 := by rw [← eop]; simpa using he
      rw [if_pos hu]
      refine Wp.text (kp 51 (.pointer (some ⟨1, 0, none⟩)) (kp 52 (.pointer (some ⟨4, 3, none⟩)) (kp 53 (.int .i64 (Up.n z)) (kp 54 (.pointer (some ⟨1, 0, none⟩)) (kp 55 (.pointer (some ⟨1, 8, none⟩)) (ld (.tuple #[]) (1) (Blk.mk 83 true [strs 0 (Dsp.r (Sd.shown a)), strs 0 (Dsp.m (Sd.shown a)), Value.int .i64 (Dsp.i (Sd.shown a)), Value.int .i64 (Dsp.j (Sd.shown a)), strs 0 (Dsp.r (Sd.kept a)), strs 0 (Dsp.m (Sd.kept a)), Value.int .i64 (Dsp.i (Sd.kept a)), Value.int .i64 (Dsp.j (Sd.kept a)), Value.int .i64 (Up.n z), Value.slice none 0 0, strs 0 (Dsp.r (Sd.shown b)), strs 0 (Dsp.m (Sd.shown b)), Value.int .i64 (Dsp.i (Sd.shown b)), Value.int .i64 (Dsp.j (Sd.shown b)), strs 0 (Dsp.r (Sd.kept b)), strs 0 (Dsp.m (Sd.kept b)), Value.int .i64 (Dsp.i (Sd.kept b)), Value.int .i64 (Dsp.j (Sd.kept b)), Value.int .i64 (Sd.mark b), Value.slice none 0 0]) ?_))))))
      refine WpOps.nil ?_
      exact ⟨rfl, viewW (by kernel_rfl) (by kernel_rfl) (stay_wy y) (stay_nil 3) (stay_nil 3) (optWy y (by kernel_rfl)) (optN _ _) (optS (by kernel_rfl) rfl) ⟨⟨by kernel_rfl, rfl⟩, ⟨by kernel_rfl, rfl⟩, ⟨by kernel_rfl, rfl⟩, ⟨by kernel_rfl, rfl⟩, ⟨by kernel_rfl, rfl⟩, trivial⟩⟩
    · have hu : ¬ u.op = 4 := by rw [← eop]; simpa using he
      rw [if_neg hu]
      refine Wp.skip ?_
      exact ⟨rfl, viewW (by kernel_rfl) (by kernel_rfl) (stay_wy y) (stay_nil 3) (stay_nil 3) (optWy y (by kernel_rfl)) (optN _ _) (optS (by kernel_rfl) rfl) ⟨⟨by kernel_rfl, rfl⟩, ⟨by kernel_rfl, rfl⟩, ⟨by kernel_rfl, rfl⟩, ⟨by kernel_rfl, rfl⟩, ⟨by kernel_rfl, rfl⟩, trivial⟩⟩
  generalize (if u.op = 4 then z.n else a.mark) = mz
  unfold wB sdB uc
  refine Wp.seq (Wp.region (by kernel_rfl) (kp 56 (.pointer (some ⟨1, 0, none⟩)) (kp 57 (.pointer (some ⟨1, 0, none⟩)) (kp 58 (.pointer (some ⟨1, 0, none⟩)) (kp 59 (.pointer (some ⟨1, 0, none⟩)) (kp 60 (.agg #[strs 0 (Dsp.r (Sd.shown (Sd.mk (Sd.shown a) (Sd.kept a) mz))), strs 0 (Dsp.m (Sd.shown (Sd.mk (Sd.shown a) (Sd.kept a) mz))), Value.int .i64 (Dsp.i (Sd.shown (Sd.mk (Sd.shown a) (Sd.kept a) mz))), Value.int .i64 (Dsp.j (Sd.shown (Sd.mk (Sd.shown a) (Sd.kept a) mz)))]) (kp 61 (.agg #[Value.int .i64 (Up.op z), Value.int .i64 (Up.row z), Value.int .i64 (Up.col z), Value.int .i64 (Up.n z), Value.string (Up.t z)]) (fr 62 40 [Value.agg #[strs 0 (Dsp.r (Sd.shown (Sd.mk (Sd.shown a) (Sd.kept a) mz))), strs 0 (Dsp.m (Sd.shown (Sd.mk (Sd.shown a) (Sd.kept a) mz))), Value.int .i64 (Dsp.i (Sd.shown (Sd.mk (Sd.shown a) (Sd.kept a) mz))), Value.int .i64 (Dsp.j (Sd.shown (Sd.mk (Sd.shown a) (Sd.kept a) mz)))], Value.agg #[Value.int .i64 (Up.op z), Value.int .i64 (Up.row z), Value.int .i64 (Up.col z), Value.int .i64 (Up.n z), Value.string (Up.t z)]] ?_))))))))
  refine WpFun.of (c40) (kp 63 (.pointer (some ⟨1, 0, none⟩)) (kp 64 (.pointer (some ⟨1, 0, none⟩)) (ld (.tuple #[]) (1) (Blk.mk 83 true [strs 0 (Dsp.r (Dsp.ap (Sd.shown a) z)), strs 0 (Dsp.m (Dsp.ap (Sd.shown a) z)), Value.int .i64 (Dsp.i (Dsp.ap (Sd.shown a) z)), Value.int .i64 (Dsp.j (Dsp.ap (Sd.shown a) z)), strs 0 (Dsp.r (Sd.kept (Sd.mk (Sd.shown a) (Sd.kept a) mz))), strs 0 (Dsp.m (Sd.kept (Sd.mk (Sd.shown a) (Sd.kept a) mz))), Value.int .i64 (Dsp.i (Sd.kept (Sd.mk (Sd.shown a) (Sd.kept a) mz))), Value.int .i64 (Dsp.j (Sd.kept (Sd.mk (Sd.shown a) (Sd.kept a) mz))), Value.int .i64 (Sd.mark (Sd.mk (Sd.shown a) (Sd.kept a) mz)), Value.slice none 0 0, strs 0 (Dsp.r (Sd.shown b)), strs 0 (Dsp.m (Sd.shown b)), Value.int .i64 (Dsp.i (Sd.shown b)), Value.int .i64 (Dsp.j (Sd.shown b)), strs 0 (Dsp.r (Sd.kept b)), strs 0 (Dsp.m (Sd.kept b)), Value.int .i64 (Dsp.i (Sd.kept b)), Value.int .i64 (Dsp.j (Sd.kept b)), Value.int .i64 (Sd.mark b), Value.slice none 0 0]) ?_)))
  refine WpOps.nil (thenK_at (Wp.seq (Wp.region (by kernel_rfl) (kp 65 (.pointer (some ⟨1, 0, none⟩)) (kp 66 (.pointer (some ⟨1, 0, none⟩)) (kp 67 (.pointer (some ⟨1, 0, none⟩)) (kp 68 (.pointer (some ⟨1, 9, none⟩)) (kp 69 (.slice none 0 0) (kp 70 (.agg #[Value.int .i64 (Up.op z), Value.int .i64 (Up.row z), Value.int .i64 (Up.col z), Value.int .i64 (Up.n z), Value.string (Up.t z)]) (md 71 (.slice (some ⟨5, 0, none⟩) 1 1) (Blk.mk 26 true [Value.int .i64 (Up.op z), Value.int .i64 (Up.row z), Value.int .i64 (Up.col z), Value.int .i64 (Up.n z), Value.string (Up.t z)]) (md 72 (.slice (some ⟨6, 0, none⟩) 1 1) (Blk.mk 26 true [Value.int .i64 (Up.op z), Value.int .i64 (Up.row z), Value.int .i64 (Up.col z), Value.int .i64 (Up.n z), Value.string (Up.t z)]) (kp 73 (.pointer (some ⟨1, 0, none⟩)) (kp 74 (.pointer (some ⟨1, 9, none⟩)) (ld (.tuple #[]) (1) (Blk.mk 83 true [strs 0 (Dsp.r (Dsp.ap (Sd.shown a) z)), strs 0 (Dsp.m (Dsp.ap (Sd.shown a) z)), Value.int .i64 (Dsp.i (Dsp.ap (Sd.shown a) z)), Value.int .i64 (Dsp.j (Dsp.ap (Sd.shown a) z)), strs 0 (Dsp.r (Sd.kept (Sd.mk (Sd.shown a) (Sd.kept a) mz))), strs 0 (Dsp.m (Sd.kept (Sd.mk (Sd.shown a) (Sd.kept a) mz))), Value.int .i64 (Dsp.i (Sd.kept (Sd.mk (Sd.shown a) (Sd.kept a) mz))), Value.int .i64 (Dsp.j (Sd.kept (Sd.mk (Sd.shown a) (Sd.kept a) mz))), Value.int .i64 (Sd.mark (Sd.mk (Sd.shown a) (Sd.kept a) mz)), Value.slice (some ⟨6, 0, none⟩) 1 1, strs 0 (Dsp.r (Sd.shown b)), strs 0 (Dsp.m (Sd.shown b)), Value.int .i64 (Dsp.i (Sd.shown b)), Value.int .i64 (Dsp.j (Sd.shown b)), strs 0 (Dsp.r (Sd.kept b)), strs 0 (Dsp.m (Sd.kept b)), Value.int .i64 (Dsp.i (Sd.kept b)), Value.int .i64 (Dsp.j (Sd.kept b)), Value.int .i64 (Sd.mark b), Value.slice none 0 0]) ?_))))))))))))))
  refine WpOps.nil (thenK_at (Wp.seq (Wp.text (kp 6 (.int .i64 0) (WpOps.nil (thenK_at (Wp.ret (endK_retn [Value.int .i64 0] (Value.int .i64 0) (by kernel_rfl) (by kernel_rfl) ?_))))))))
  exact endW5 6 (qB [z]) (by decide) (by kernel_rfl) (by kernel_rfl) (stay_wy y _ _ rfl (by decide)) ⟨rfl, rfl⟩ ⟨rfl, rfl⟩ (optWy y (by kernel_rfl)) (optN _ _) (optS (by kernel_rfl) rfl) (.w (.un rfl rfl))
theorem upd22_O0 (y : Wy) (a b : Sd) (l : List Up) (hl : l.length < 100) (u : Up) (hf : a.shown.fits (u.eff a.mark)) (ht : u.t.size ≤ 140737488351232) (hg : a.shown.good) :
    SCall E 22 [.pointer (some ⟨0, 0, none⟩), .int .i64 0, u.v] (heapO [some (wB 0 (wyV y)), some (sdB a b (.slice (some ⟨3, 0, none⟩) l.length l.length) (.slice none 0 0)), wyB y, some (qB l)]) (.int .i64 0) (heapO [some (wB 0 (wyV y)), some (sdB ⟨a.shown.ap (u.eff a.mark), a.kept, (if u.op = 4 then (u.eff a.mark).n else a.mark)⟩ b (.slice (some ⟨4, 0, none⟩) (l ++ [u.eff a.mark]).length (l ++ [u.eff a.mark]).length) (.slice none 0 0)), wyB y, none, some (qB (l ++ [u.eff a.mark]))]) := by
  have dl : decide ((l.length : Int) ≥ 100) = false := decide_eq_false (by omega)
  have hfl : (qB l).cells.all flat = true := ucs_flat l
  have q0 : cellsAt (qB l).cells 0 (l.length * 5) = some (ucs l) := ucs_all l
  have q1 : ¬ l.length + 1 ≤ l.length := by omega
  have q2 : 1 ≤ 48 ∧ (l.length + 1) * 48 ≤ 140737488355328 ∧ 5 = 5 ∧ l.length + 1 ≤ 9223372036854775807 := by omega
  have c40 := applyD a.shown (u.eff a.mark) hg hf
  have c39 := fitsD a.shown (u.eff a.mark) hg (by rw [eff_t]; exact ht)
  rw [decide_eq_true hf] at c39
  refine SCall.enterO f22 rfl (of_decide_eq_true (by kernel_rfl)) (by cases y <;> rfl) (by cases y <;> rfl) (Nat.le_succ _) ?_
  have h0 : ∀ z : Value, z = z := fun _ => rfl
  unfold Up.v uv
  unfold wB sdB
  refine Wp.seq (Wp.text (md 5 (.pointer (some ⟨4, 0, none⟩)) (Blk.mk 26 true [Value.int .i64 (Up.op u), Value.int .i64 (Up.row u), Value.int .i64 (Up.col u), Value.int .i64 (Up.n u), Value.string (Up.t u)]) (kp 6 (.int .i64 0) (WpOps.nil (thenK_at (Wp.seq (Wp.seq (Wp.text (kp 8 (.pointer (some ⟨0, 0, none⟩)) (kp 9 (.int .i64 0) (cl 10 49 [Value.pointer (some ⟨0, 0, none⟩), Value.int .i64 0] ?_)))))))))))
  refine WpCall.side0 (by kernel_rfl) ?_
  refine kp 11 (.bool false) (WpOps.nil (thenK_at (off' (Wp.skip (thenK_at (Wp.seq (Wp.text (kp 12 (.pointer (some ⟨0, 0, none⟩)) (kp 13 (.pointer (some ⟨0, 0, none⟩)) (kp 14 (.pointer (some ⟨0, 0, none⟩)) (kp 15 (.slice (some ⟨1, 0, none⟩) 2 2) (kp 16 (.int .i64 0) (kp 17 (.pointer (some ⟨1, 0, none⟩)) (kp 7 (.pointer (some ⟨1, 0, none⟩)) (WpOps.nil (thenK_at (Wp.seq (Wp.seq (Wp.text (kp 18 (.pointer (some ⟨4, 0, none⟩)) (kp 19 (.int .i64 (Up.op u)) (kp 20 (.bool (Up.op u == 1)) (WpOps.nil (thenK_at ?_))))))))))))))))))))))))
  refine Wp.mergeH [(0, .pointer (some ⟨0, 0, none⟩)), (1, .int .i64 0), (5, .pointer (some ⟨4, 0, none⟩)), (6, .int .i64 0), (7, .pointer (some ⟨1, 0, none⟩))] (heapO [some (wB 0 (wyV y)), some (sdB a b (.slice (some ⟨3, 0, none⟩) l.length l.length) (.slice none 0 0)), wyB y, some (qB l), some ⟨26, true, uc (u.eff a.mark)⟩]) ?_ ?_
  · refine Wp.split (Up.op u == 1) (by kernel_rfl) (fun he => ?_) (fun he => ?_)
    · have hu : u.op = 1 := by simpa using he
      have ee : uc (u.eff a.mark) = [.int .i64 u.op, .int .i64 u.row, .int .i64 u.col, .int .i64 a.mark, .string u.t] := by unfold Up.eff; rw [if_pos hu]; rfl
      rw [ee]
      refine Wp.text (kp 21 (.pointer (some ⟨1, 0, none⟩)) (kp 22 (.pointer (some ⟨1, 0, none⟩)) (kp 23 (.pointer (some ⟨1, 8, none⟩)) (kp 24 (.int .i64 (Sd.mark a)) (kp 25 (.pointer (some ⟨4, 3, none⟩)) (ld (.tuple #[]) (4) (Blk.mk 26 true [Value.int .i64 (Up.op u), Value.int .i64 (Up.row u), Value.int .i64 (Up.col u), Value.int .i64 (Sd.mark a), Value.string (Up.t u)]) (WpOps.nil ?_)))))))
      exact ⟨rfl, viewW (by kernel_rfl) (by kernel_rfl) (stay_wy y) (stay_sl 3 0 _ _) (stay_nil 3) (optWy y (by kernel_rfl)) (optS (by kernel_rfl) (ucs_flat l)) (optS (by kernel_rfl) rfl) ⟨⟨by kernel_rfl, rfl⟩, ⟨by kernel_rfl, rfl⟩, ⟨by kernel_rfl, rfl⟩, ⟨by kernel_rfl, rfl⟩, ⟨by kernel_rfl, rfl⟩, trivial⟩⟩
    · have hu : ¬ u.op = 1 := by simpa using he
      have ee : uc (u.eff a.mark) = [.int .i64 u.op, .int .i64 u.row, .int .i64 u.col, .int .i64 u.n, .string u.t] := by unfold Up.eff; rw [if_neg hu]; rfl
      rw [ee]
      refine Wp.skip ?_
      exact ⟨rfl, viewW (by kernel_rfl) (by kernel_rfl) (stay_wy y) (stay_sl 3 0 _ _) (stay_nil 3) (optWy y (by kernel_rfl)) (optS (by kernel_rfl) (ucs_flat l)) (optS (by kernel_rfl) rfl) ⟨⟨by kernel_rfl, rfl⟩, ⟨by kernel_rfl, rfl⟩, ⟨by kernel_rfl, rfl⟩, ⟨by kernel_rfl, rfl⟩, ⟨by kernel_rfl, rfl⟩, trivial⟩⟩
  have eop : (u.eff a.mark).op = u.op := eff_op u _
  generalize (u.eff a.mark) = z at *
  unfold Dsp.v dv Up.v uv at c39 c40
  unfold wB sdB uc
  refine Wp.seq (Wp.block (Wp.seq (Wp.region (by kernel_rfl) (kp 27 (.pointer (some ⟨1, 0, none⟩)) (kp 28 (.pointer (some ⟨1, 0, none⟩)) (kp 29 (.pointer (some ⟨1, 0, none⟩)) (kp 30 (.agg #[strs 0 (Dsp.r (Sd.shown a)), strs 0 (Dsp.m (Sd.shown a)), Value.int .i64 (Dsp.i (Sd.shown a)), Value.int .i64 (Dsp.j (Sd.shown a))]) (kp 31 (.agg #[Value.int .i64 (Up.op z), Value.int .i64 (Up.row z), Value.int .i64 (Up.col z), Value.int .i64 (Up.n z), Value.string (Up.t z)]) (fr 32 39 [Value.agg #[strs 0 (Dsp.r (Sd.shown a)), strs 0 (Dsp.m (Sd.shown a)), Value.int .i64 (Dsp.i (Sd.shown a)), Value.int .i64 (Dsp.j (Sd.shown a))], Value.agg #[Value.int .i64 (Up.op z), Value.int .i64 (Up.row z), Value.int .i64 (Up.col z), Value.int .i64 (Up.n z), Value.string (Up.t z)]] (WpFun.of (c39) (kp 33 (.bool false) (kp 26 (.bool false) (WpOps.nil (thenK_at (off' (Wp.seq (Wp.text (kp 35 (.pointer (some ⟨0, 0, none⟩)) (kp 36 (.pointer (some ⟨0, 0, none⟩)) (kp 37 (.pointer (some ⟨0, 1, none⟩)) (kp 38 (.int .i64 0) ?_)))))))))))))))))))))
  refine kp 39 (.int .i64 0) (kp 40 (.bool false) (kp 34 (.bool false) (WpOps.nil (thenK_at (off' (Wp.seq (Wp.text (kp 42 (.pointer (some ⟨1, 0, none⟩)) (kp 43 (.pointer (some ⟨1, 0, none⟩)) (kp 44 (.pointer (some ⟨1, 9, none⟩)) (kp 45 (.slice (some ⟨3, 0, none⟩) (List.length l) (List.length l)) (kp 46 (.int .i64 (List.length l)) (kp 47 (.bool false) (kp 41 (.bool false) (WpOps.nil (thenK_at (off' (Wp.skip (blockK_norm (thenK_at (Wp.seq (Wp.seq (Wp.text (kp 48 (.pointer (some ⟨4, 0, none⟩)) (kp 49 (.int .i64 (Up.op z)) (kp 50 (.bool (Up.op z == 4)) (WpOps.nil (thenK_at ?_))))))))))))))) (hop := fun _ => by_fact dl))))))))))))))
  refine Wp.mergeH [(0, .pointer (some ⟨0, 0, none⟩)), (1, .int .i64 0), (5, .pointer (some ⟨4, 0, none⟩)), (6, .int .i64 0), (7, .pointer (some ⟨1, 0, none⟩))] (heapO [some (wB 0 (wyV y)), some (sdB ⟨a.shown, a.kept, (if u.op = 4 then z.n else a.mark)⟩ b (.slice (some ⟨3, 0, none⟩) l.length l.length) (.slice none 0 0)), wyB y, some (qB l), some ⟨26, true, uc z⟩]) ?_ ?_
  · refine Wp.split (Up.op z == 4) (by kernel_rfl) (fun he => ?_) (fun he => ?_)
    · have hu : u.op = 4 := by rw [← eop]; simpa using he
      rw [if_pos hu]
      refine Wp.text (kp 51 (.pointer (some ⟨1, 0, none⟩)) (kp 52 (.pointer (some ⟨4, 3, none⟩)) (kp 53 (.int .i64 (Up.n z)) (kp 54 (.pointer (some ⟨1, 0, none⟩)) (kp 55 (.pointer (some ⟨1, 8, none⟩)) (ld (.tuple #[]) (1) (Blk.mk 83 true [strs 0 (Dsp.r (Sd.shown a)), strs 0 (Dsp.m (Sd.shown a)), Value.int .i64 (Dsp.i (Sd.shown a)), Value.int .i64 (Dsp.j (Sd.shown a)), strs 0 (Dsp.r (Sd.kept a)), strs 0 (Dsp.m (Sd.kept a)), Value.int .i64 (Dsp.i (Sd.kept a)), Value.int .i64 (Dsp.j (Sd.kept a)), Value.int .i64 (Up.n z), Value.slice (some ⟨3, 0, none⟩) (List.length l) (List.length l), strs 0 (Dsp.r (Sd.shown b)), strs 0 (Dsp.m (Sd.shown b)), Value.int .i64 (Dsp.i (Sd.shown b)), Value.int .i64 (Dsp.j (Sd.shown b)), strs 0 (Dsp.r (Sd.kept b)), strs 0 (Dsp.m (Sd.kept b)), Value.int .i64 (Dsp.i (Sd.kept b)), Value.int .i64 (Dsp.j (Sd.kept b)), Value.int .i64 (Sd.mark b), Value.slice none 0 0]) ?_))))))
      refine WpOps.nil ?_
      exact ⟨rfl, viewW (by kernel_rfl) (by kernel_rfl) (stay_wy y) (stay_sl 3 0 _ _) (stay_nil 3) (optWy y (by kernel_rfl)) (optS (by kernel_rfl) (ucs_flat l)) (optS (by kernel_rfl) rfl) ⟨⟨by kernel_rfl, rfl⟩, ⟨by kernel_rfl, rfl⟩, ⟨by kernel_rfl, rfl⟩, ⟨by kernel_rfl, rfl⟩, ⟨by kernel_rfl, rfl⟩, trivial⟩⟩
    · have hu : ¬ u.op = 4 := by rw [← eop]; simpa using he
      rw [if_neg hu]
      refine Wp.skip ?_
      exact ⟨rfl, viewW (by kernel_rfl) (by kernel_rfl) (stay_wy y) (stay_sl 3 0 _ _) (stay_nil 3) (optWy y (by kernel_rfl)) (optS (by kernel_rfl) (ucs_flat l)) (optS (by kernel_rfl) rfl) ⟨⟨by kernel_rfl, rfl⟩, ⟨by kernel_rfl, rfl⟩, ⟨by kernel_rfl, rfl⟩, ⟨by kernel_rfl, rfl⟩, ⟨by kernel_rfl, rfl⟩, trivial⟩⟩
  generalize (if u.op = 4 then z.n else a.mark) = mz
  unfold wB sdB uc
  refine Wp.seq (Wp.region (by kernel_rfl) (kp 56 (.pointer (some ⟨1, 0, none⟩)) (kp 57 (.pointer (some ⟨1, 0, none⟩)) (kp 58 (.pointer (some ⟨1, 0, none⟩)) (kp 59 (.pointer (some ⟨1, 0, none⟩)) (kp 60 (.agg #[strs 0 (Dsp.r (Sd.shown (Sd.mk (Sd.shown a) (Sd.kept a) mz))), strs 0 (Dsp.m (Sd.shown (Sd.mk (Sd.shown a) (Sd.kept a) mz))), Value.int .i64 (Dsp.i (Sd.shown (Sd.mk (Sd.shown a) (Sd.kept a) mz))), Value.int .i64 (Dsp.j (Sd.shown (Sd.mk (Sd.shown a) (Sd.kept a) mz)))]) (kp 61 (.agg #[Value.int .i64 (Up.op z), Value.int .i64 (Up.row z), Value.int .i64 (Up.col z), Value.int .i64 (Up.n z), Value.string (Up.t z)]) (fr 62 40 [Value.agg #[strs 0 (Dsp.r (Sd.shown (Sd.mk (Sd.shown a) (Sd.kept a) mz))), strs 0 (Dsp.m (Sd.shown (Sd.mk (Sd.shown a) (Sd.kept a) mz))), Value.int .i64 (Dsp.i (Sd.shown (Sd.mk (Sd.shown a) (Sd.kept a) mz))), Value.int .i64 (Dsp.j (Sd.shown (Sd.mk (Sd.shown a) (Sd.kept a) mz)))], Value.agg #[Value.int .i64 (Up.op z), Value.int .i64 (Up.row z), Value.int .i64 (Up.col z), Value.int .i64 (Up.n z), Value.string (Up.t z)]] ?_))))))))
  refine WpFun.of (c40) (kp 63 (.pointer (some ⟨1, 0, none⟩)) (kp 64 (.pointer (some ⟨1, 0, none⟩)) (ld (.tuple #[]) (1) (Blk.mk 83 true [strs 0 (Dsp.r (Dsp.ap (Sd.shown a) z)), strs 0 (Dsp.m (Dsp.ap (Sd.shown a) z)), Value.int .i64 (Dsp.i (Dsp.ap (Sd.shown a) z)), Value.int .i64 (Dsp.j (Dsp.ap (Sd.shown a) z)), strs 0 (Dsp.r (Sd.kept (Sd.mk (Sd.shown a) (Sd.kept a) mz))), strs 0 (Dsp.m (Sd.kept (Sd.mk (Sd.shown a) (Sd.kept a) mz))), Value.int .i64 (Dsp.i (Sd.kept (Sd.mk (Sd.shown a) (Sd.kept a) mz))), Value.int .i64 (Dsp.j (Sd.kept (Sd.mk (Sd.shown a) (Sd.kept a) mz))), Value.int .i64 (Sd.mark (Sd.mk (Sd.shown a) (Sd.kept a) mz)), Value.slice (some ⟨3, 0, none⟩) (List.length l) (List.length l), strs 0 (Dsp.r (Sd.shown b)), strs 0 (Dsp.m (Sd.shown b)), Value.int .i64 (Dsp.i (Sd.shown b)), Value.int .i64 (Dsp.j (Sd.shown b)), strs 0 (Dsp.r (Sd.kept b)), strs 0 (Dsp.m (Sd.kept b)), Value.int .i64 (Dsp.i (Sd.kept b)), Value.int .i64 (Dsp.j (Sd.kept b)), Value.int .i64 (Sd.mark b), Value.slice none 0 0]) ?_)))
  refine WpOps.nil (thenK_at (Wp.seq (Wp.region (by kernel_rfl) (kp 65 (.pointer (some ⟨1, 0, none⟩)) (kp 66 (.pointer (some ⟨1, 0, none⟩)) (kp 67 (.pointer (some ⟨1, 0, none⟩)) (kp 68 (.pointer (some ⟨1, 9, none⟩)) (kp 69 (.slice (some ⟨3, 0, none⟩) (List.length l) (List.length l)) (kp 70 (.agg #[Value.int .i64 (Up.op z), Value.int .i64 (Up.row z), Value.int .i64 (Up.col z), Value.int .i64 (Up.n z), Value.string (Up.t z)]) (md 71 (.slice (some ⟨5, 0, none⟩) 1 1) (Blk.mk 26 true [Value.int .i64 (Up.op z), Value.int .i64 (Up.row z), Value.int .i64 (Up.col z), Value.int .i64 (Up.n z), Value.string (Up.t z)]) ?_))))))))))
  refine ra 72 (.slice (some ⟨6, 0, none⟩) (List.length l + 1) (List.length l + 1)) (3) (Blk.mk 26 true (ucs l ++ [Value.int .i64 (Up.op z), Value.int .i64 (Up.row z), Value.int .i64 (Up.col z), Value.int .i64 (Up.n z), Value.string (Up.t z)])) ?_ (hop := fun _ => o_append (e := 26) (3) (0) (List.length l) _ (List.length l) q1 q2 q0)
  refine kp 73 (.pointer (some ⟨1, 0, none⟩)) (kp 74 (.pointer (some ⟨1, 9, none⟩)) (ld (.tuple #[]) (1) (Blk.mk 83 true [strs 0 (Dsp.r (Dsp.ap (Sd.shown a) z)), strs 0 (Dsp.m (Dsp.ap (Sd.shown a) z)), Value.int .i64 (Dsp.i (Dsp.ap (Sd.shown a) z)), Value.int .i64 (Dsp.j (Dsp.ap (Sd.shown a) z)), strs 0 (Dsp.r (Sd.kept (Sd.mk (Sd.shown a) (Sd.kept a) mz))), strs 0 (Dsp.m (Sd.kept (Sd.mk (Sd.shown a) (Sd.kept a) mz))), Value.int .i64 (Dsp.i (Sd.kept (Sd.mk (Sd.shown a) (Sd.kept a) mz))), Value.int .i64 (Dsp.j (Sd.kept (Sd.mk (Sd.shown a) (Sd.kept a) mz))), Value.int .i64 (Sd.mark (Sd.mk (Sd.shown a) (Sd.kept a) mz)), Value.slice (some ⟨6, 0, none⟩) (List.length l + 1) (List.length l + 1), strs 0 (Dsp.r (Sd.shown b)), strs 0 (Dsp.m (Sd.shown b)), Value.int .i64 (Dsp.i (Sd.shown b)), Value.int .i64 (Dsp.j (Sd.shown b)), strs 0 (Dsp.r (Sd.kept b)), strs 0 (Dsp.m (Sd.kept b)), Value.int .i64 (Dsp.i (Sd.kept b)), Value.int .i64 (Dsp.j (Sd.kept b)), Value.int .i64 (Sd.mark b), Value.slice none 0 0]) ?_))
  refine WpOps.nil (thenK_at (Wp.seq (Wp.text (kp 6 (.int .i64 0) (WpOps.nil (thenK_at (Wp.ret (endK_retn [Value.int .i64 0] (Value.int .i64 0) (by kernel_rfl) (by kernel_rfl) ?_))))))))
  have r1 : ucs l ++ [.int .i64 z.op, .int .i64 z.row, .int .i64 z.col, .int .i64 z.n, .string z.t] = ucs (l ++ [z]) := (ucs_app l [z]).symm
  have r2 : l.length + 1 = (l ++ [z]).length := by simp
  rw [r1, r2]
  exact endW5 6 (qB (l ++ [z])) (by decide) (by kernel_rfl) (by kernel_rfl) (stay_wy y _ _ rfl (by decide)) ⟨rfl, rfl⟩ ⟨rfl, rfl⟩ (optWy y (by kernel_rfl)) (optN _ _) (optS (by kernel_rfl) (ucs_flat _)) (.w (.un rfl rfl))
theorem upd22_F1 (t : Int) (y : Wy) (a b : Sd) (l : List Up) (wa wb : Value) (ha : Stay 3 wa) (hb : Stay 3 wb)  (u : Up) (hf : ¬ b.shown.fits (u.eff b.mark)) (ht : u.t.size ≤ 140737488351232) (hg : b.shown.good) :
    SCall E 22 [.pointer (some ⟨0, 0, none⟩), .int .i64 1, u.v] (heapO [some (wB t (wyV y)), some (sdB a b (wa) (wb)), wyB y, qO l]) (.int .i64 1) (heapO [some (wB t (wyV y)), some (sdB a b (wa) (wb)), wyB y, qO l]) := by
  have c39 := fitsD b.shown (u.eff b.mark) hg (by rw [eff_t]; exact ht)
  rw [decide_eq_false hf] at c39
  refine SCall.enterO f22 rfl (of_decide_eq_true (by kernel_rfl)) (own4 y l) (own4 y l) (Nat.le_refl _) ?_
  have h0 : ∀ z : Value, z = z := fun _ => rfl
  unfold Up.v uv
  unfold wB sdB
  refine Wp.seq (Wp.text (md 5 (.pointer (some ⟨4, 0, none⟩)) (Blk.mk 26 true [Value.int .i64 (Up.op u), Value.int .i64 (Up.row u), Value.int .i64 (Up.col u), Value.int .i64 (Up.n u), Value.string (Up.t u)]) (kp 6 (.int .i64 0) (WpOps.nil (thenK_at (Wp.seq (Wp.seq (Wp.text (kp 8 (.pointer (some ⟨0, 0, none⟩)) (kp 9 (.int .i64 1) (cl 10 49 [Value.pointer (some ⟨0, 0, none⟩), Value.int .i64 1] ?_)))))))))))
  refine WpCall.side1 (by kernel_rfl) ?_
  refine kp 11 (.bool false) (WpOps.nil (thenK_at (off' (Wp.skip (thenK_at (Wp.seq (Wp.text (kp 12 (.pointer (some ⟨0, 0, none⟩)) (kp 13 (.pointer (some ⟨0, 0, none⟩)) (kp 14 (.pointer (some ⟨0, 0, none⟩)) (kp 15 (.slice (some ⟨1, 0, none⟩) 2 2) (kp 16 (.int .i64 1) (kp 17 (.pointer (some ⟨1, 10, none⟩)) (kp 7 (.pointer (some ⟨1, 10, none⟩)) (WpOps.nil (thenK_at (Wp.seq (Wp.seq (Wp.text (kp 18 (.pointer (some ⟨4, 0, none⟩)) (kp 19 (.int .i64 (Up.op u)) (kp 20 (.bool (Up.op u == 1)) (WpOps.nil (thenK_at ?_))))))))))))))))))))))))
  refine Wp.mergeH [(0, .pointer (some ⟨0, 0, none⟩)), (1, .int .i64 1), (5, .pointer (some ⟨4, 0, none⟩)), (6, .int .i64 0), (7, .pointer (some ⟨1, 10, none⟩))] (heapO [some (wB t (wyV y)), some (sdB a b (wa) (wb)), wyB y, qO l, some ⟨26, true, uc (u.eff b.mark)⟩]) ?_ ?_
  · refine Wp.split (Up.op u == 1) (by kernel_rfl) (fun he => ?_) (fun he => ?_)
    · have hu : u.op = 1 := by simpa using he
      have ee : uc (u.eff b.mark) = [.int .i64 u.op, .int .i64 u.row, .int .i64 u.col, .int .i64 b.mark, .string u.t] := by unfold Up.eff; rw [if_pos hu]; rfl
      rw [ee]
      refine Wp.text (kp 21 (.pointer (some ⟨1, 10, none⟩)) (kp 22 (.pointer (some ⟨1, 10, none⟩)) (kp 23 (.pointer (some ⟨1, 18, none⟩)) (kp 24 (.int .i64 (Sd.mark b)) (kp 25 (.pointer (some ⟨4, 3, none⟩)) (ld (.tuple #[]) (4) (Blk.mk 26 true [Value.int .i64 (Up.op u), Value.int .i64 (Up.row u), Value.int .i64 (Up.col u), Value.int .i64 (Sd.mark b), Value.string (Up.t u)]) (WpOps.nil ?_)))))))
      exact ⟨rfl, viewW (by kernel_rfl) (by kernel_rfl) (stay_wy y) ha hb (optWy y (by kernel_rfl)) (optQ l (by kernel_rfl)) (optS (by kernel_rfl) rfl) ⟨⟨by kernel_rfl, rfl⟩, ⟨by kernel_rfl, rfl⟩, ⟨by kernel_rfl, rfl⟩, ⟨by kernel_rfl, rfl⟩, ⟨by kernel_rfl, rfl⟩, trivial⟩⟩
    · have hu : ¬ u.op = 1 := by simpa using he
      have ee : uc (u.eff b.mark) = [.int .i64 u.op, .int .i64 u.row, .int .i64 u.col, .int .i64 u.n, .string u.t] := by unfold Up.eff; rw [if_neg hu]; rfl
      rw [ee]
      refine Wp.skip ?_
      exact ⟨rfl, viewW (by kernel_rfl) (by kernel_rfl) (stay_wy y) ha hb (optWy y (by kernel_rfl)) (optQ l (by kernel_rfl)) (optS (by kernel_rfl) rfl) ⟨⟨by kernel_rfl, rfl⟩, ⟨by kernel_rfl, rfl⟩, ⟨by kernel_rfl, rfl⟩, ⟨by kernel_rfl, rfl⟩, ⟨by kernel_rfl, rfl⟩, trivial⟩⟩
  have eop : (u.eff b.mark).op = u.op := eff_op u _
  generalize (u.eff b.mark) = z at *
  unfold Dsp.v dv Up.v uv at c39
  unfold wB sdB uc
  refine Wp.seq (Wp.block (Wp.seq (Wp.region (by kernel_rfl) (kp 27 (.pointer (some ⟨1, 10, none⟩)) (kp 28 (.pointer (some ⟨1, 10, none⟩)) (kp 29 (.pointer (some ⟨1, 10, none⟩)) (kp 30 (.agg #[strs 0 (Dsp.r (Sd.shown b)), strs 0 (Dsp.m (Sd.shown b)), Value.int .i64 (Dsp.i (Sd.shown b)), Value.int .i64 (Dsp.j (Sd.shown b))]) (kp 31 (.agg #[Value.int .i64 (Up.op z), Value.int .i64 (Up.row z), Value.int .i64 (Up.col z), Value.int .i64 (Up.n z), Value.string (Up.t z)]) (fr 32 39 [Value.agg #[strs 0 (Dsp.r (Sd.shown b)), strs 0 (Dsp.m (Sd.shown b)), Value.int .i64 (Dsp.i (Sd.shown b)), Value.int .i64 (Dsp.j (Sd.shown b))], Value.agg #[Value.int .i64 (Up.op z), Value.int .i64 (Up.row z), Value.int .i64 (Up.col z), Value.int .i64 (Up.n z), Value.string (Up.t z)]] (WpFun.of (c39) (kp 33 (.bool true) (kp 26 (.bool true) (WpOps.nil (thenK_at (on' (Wp.seq (Wp.text (kp 6 (.int .i64 1) (WpOps.nil (thenK_at (Wp.ret (blockK_ret (thenK_ret (endK_retn [Value.int .i64 1] (Value.int .i64 1) (by kernel_rfl) (by kernel_rfl) ?_))))))))))))))))))))))))
  exact endW (by kernel_rfl) (by kernel_rfl) (stay_wy y) ha hb (optWy y (by kernel_rfl)) (optQ l (by kernel_rfl)) (.w (.un rfl rfl))
theorem upd22_T1 (t : Int) (y : Wy) (a b : Sd) (l : List Up) (wa wb : Value) (ha : Stay 3 wa) (hb : Stay 3 wb)  (u : Up) (hf : b.shown.fits (u.eff b.mark)) (hn : ¬ t = 1) (ht : u.t.size ≤ 140737488351232) (hg : b.shown.good) :
    SCall E 22 [.pointer (some ⟨0, 0, none⟩), .int .i64 1, u.v] (heapO [some (wB t (wyV y)), some (sdB a b (wa) (wb)), wyB y, qO l]) (.int .i64 8) (heapO [some (wB t (wyV y)), some (sdB a b (wa) (wb)), wyB y, qO l]) := by
  have dn : (t != 1) = true := by simpa using hn
  have c39 := fitsD b.shown (u.eff b.mark) hg (by rw [eff_t]; exact ht)
  rw [decide_eq_true hf] at c39
  refine SCall.enterO f22 rfl (of_decide_eq_true (by kernel_rfl)) (own4 y l) (own4 y l) (Nat.le_refl _) ?_
  have h0 : ∀ z : Value, z = z := fun _ => rfl
  unfold Up.v uv
  unfold wB sdB
  refine Wp.seq (Wp.text (md 5 (.pointer (some ⟨4, 0, none⟩)) (Blk.mk 26 true [Value.int .i64 (Up.op u), Value.int .i64 (Up.row u), Value.int .i64 (Up.col u), Value.int .i64 (Up.n u), Value.string (Up.t u)]) (kp 6 (.int .i64 0) (WpOps.nil (thenK_at (Wp.seq (Wp.seq (Wp.text (kp 8 (.pointer (some ⟨0, 0, none⟩)) (kp 9 (.int .i64 1) (cl 10 49 [Value.pointer (some ⟨0, 0, none⟩), Value.int .i64 1] ?_)))))))))))
  refine WpCall.side1 (by kernel_rfl) ?_
  refine kp 11 (.bool false) (WpOps.nil (thenK_at (off' (Wp.skip (thenK_at (Wp.seq (Wp.text (kp 12 (.pointer (some ⟨0, 0, none⟩)) (kp 13 (.pointer (some ⟨0, 0, none⟩)) (kp 14 (.pointer (some ⟨0, 0, none⟩)) (kp 15 (.slice (some ⟨1, 0, none⟩) 2 2) (kp 16 (.int .i64 1) (kp 17 (.pointer (some ⟨1, 10, none⟩)) (kp 7 (.pointer (some ⟨1, 10, none⟩)) (WpOps.nil (thenK_at (Wp.seq (Wp.seq (Wp.text (kp 18 (.pointer (some ⟨4, 0, none⟩)) (kp 19 (.int .i64 (Up.op u)) (kp 20 (.bool (Up.op u == 1)) (WpOps.nil (thenK_at ?_))))))))))))))))))))))))
  refine Wp.mergeH [(0, .pointer (some ⟨0, 0, none⟩)), (1, .int .i64 1), (5, .pointer (some ⟨4, 0, none⟩)), (6, .int .i64 0), (7, .pointer (some ⟨1, 10, none⟩))] (heapO [some (wB t (wyV y)), some (sdB a b (wa) (wb)), wyB y, qO l, some ⟨26, true, uc (u.eff b.mark)⟩]) ?_ ?_
  · refine Wp.split (Up.op u == 1) (by kernel_rfl) (fun he => ?_) (fun he => ?_)
    · have hu : u.op = 1 := by simpa using he
      have ee : uc (u.eff b.mark) = [.int .i64 u.op, .int .i64 u.row, .int .i64 u.col, .int .i64 b.mark, .string u.t] := by unfold Up.eff; rw [if_pos hu]; rfl
      rw [ee]
      refine Wp.text (kp 21 (.pointer (some ⟨1, 10, none⟩)) (kp 22 (.pointer (some ⟨1, 10, none⟩)) (kp 23 (.pointer (some ⟨1, 18, none⟩)) (kp 24 (.int .i64 (Sd.mark b)) (kp 25 (.pointer (some ⟨4, 3, none⟩)) (ld (.tuple #[]) (4) (Blk.mk 26 true [Value.int .i64 (Up.op u), Value.int .i64 (Up.row u), Value.int .i64 (Up.col u), Value.int .i64 (Sd.mark b), Value.string (Up.t u)]) (WpOps.nil ?_)))))))
      exact ⟨rfl, viewW (by kernel_rfl) (by kernel_rfl) (stay_wy y) ha hb (optWy y (by kernel_rfl)) (optQ l (by kernel_rfl)) (optS (by kernel_rfl) rfl) ⟨⟨by kernel_rfl, rfl⟩, ⟨by kernel_rfl, rfl⟩, ⟨by kernel_rfl, rfl⟩, ⟨by kernel_rfl, rfl⟩, ⟨by kernel_rfl, rfl⟩, trivial⟩⟩
    · have hu : ¬ u.op = 1 := by simpa using he
      have ee : uc (u.eff b.mark) = [.int .i64 u.op, .int .i64 u.row, .int .i64 u.col, .int .i64 u.n, .string u.t] := by unfold Up.eff; rw [if_neg hu]; rfl
      rw [ee]
      refine Wp.skip ?_
      exact ⟨rfl, viewW (by kernel_rfl) (by kernel_rfl) (stay_wy y) ha hb (optWy y (by kernel_rfl)) (optQ l (by kernel_rfl)) (optS (by kernel_rfl) rfl) ⟨⟨by kernel_rfl, rfl⟩, ⟨by kernel_rfl, rfl⟩, ⟨by kernel_rfl, rfl⟩, ⟨by kernel_rfl, rfl⟩, ⟨by kernel_rfl, rfl⟩, trivial⟩⟩
  have eop : (u.eff b.mark).op = u.op := eff_op u _
  generalize (u.eff b.mark) = z at *
  unfold Dsp.v dv Up.v uv at c39
  unfold wB sdB uc
  refine Wp.seq (Wp.block (Wp.seq (Wp.region (by kernel_rfl) (kp 27 (.pointer (some ⟨1, 10, none⟩)) (kp 28 (.pointer (some ⟨1, 10, none⟩)) (kp 29 (.pointer (some ⟨1, 10, none⟩)) (kp 30 (.agg #[strs 0 (Dsp.r (Sd.shown b)), strs 0 (Dsp.m (Sd.shown b)), Value.int .i64 (Dsp.i (Sd.shown b)), Value.int .i64 (Dsp.j (Sd.shown b))]) (kp 31 (.agg #[Value.int .i64 (Up.op z), Value.int .i64 (Up.row z), Value.int .i64 (Up.col z), Value.int .i64 (Up.n z), Value.string (Up.t z)]) (fr 32 39 [Value.agg #[strs 0 (Dsp.r (Sd.shown b)), strs 0 (Dsp.m (Sd.shown b)), Value.int .i64 (Dsp.i (Sd.shown b)), Value.int .i64 (Dsp.j (Sd.shown b))], Value.agg #[Value.int .i64 (Up.op z), Value.int .i64 (Up.row z), Value.int .i64 (Up.col z), Value.int .i64 (Up.n z), Value.string (Up.t z)]] (WpFun.of (c39) (kp 33 (.bool false) (kp 26 (.bool false) (WpOps.nil (thenK_at (off' (Wp.seq (Wp.text (kp 35 (.pointer (some ⟨0, 0, none⟩)) (kp 36 (.pointer (some ⟨0, 0, none⟩)) (kp 37 (.pointer (some ⟨0, 1, none⟩)) (kp 38 (.int .i64 t) ?_)))))))))))))))))))))
  refine kp 39 (.int .i64 1) (kp 40 (.bool true) (kp 34 (.bool true) (WpOps.nil (thenK_at (on' (Wp.seq (Wp.text (kp 6 (.int .i64 8) (WpOps.nil (thenK_at (Wp.ret (blockK_ret (thenK_ret (endK_retn [Value.int .i64 8] (Value.int .i64 8) (by kernel_rfl) (by kernel_rfl) ?_))))))))))))) (hop := fun _ => by_fact dn))
  exact endW (by kernel_rfl) (by kernel_rfl) (stay_wy y) ha hb (optWy y (by kernel_rfl)) (optQ l (by kernel_rfl)) (.w (.un rfl rfl))
theorem upd22_U1 (y : Wy) (a b : Sd) (l : List Up) (hl : 100 ≤ l.length) (hl2 : l.length ≤ 1000) (u : Up) (hf : b.shown.fits (u.eff b.mark)) (ht : u.t.size ≤ 140737488351232) (hg : b.shown.good) :
    SCall E 22 [.pointer (some ⟨0, 0, none⟩), .int .i64 1, u.v] (heapO [some (wB 1 (wyV y)), some (sdB a b (.slice none 0 0) (.slice (some ⟨3, 0, none⟩) l.length l.length)), wyB y, some (qB l)]) (.int .i64 9) (heapO [some (wB 1 (wyV y)), some (sdB a b (.slice none 0 0) (.slice (some ⟨3, 0, none⟩) l.length l.length)), wyB y, some (qB l)]) := by
  have dl : decide ((l.length : Int) ≥ 100) = true := decide_eq_true (by omega)
  have hfl : (qB l).cells.all flat = true := ucs_flat l
  have c39 := fitsD b.shown (u.eff b.mark) hg (by rw [eff_t]; exact ht)
  rw [decide_eq_true hf] at c39
  refine SCall.enterO f22 rfl (of_decide_eq_true (by kernel_rfl)) (by cases y <;> rfl) (by cases y <;> rfl) (Nat.le_refl _) ?_
  have h0 : ∀ z : Value, z = z := fun _ => rfl
  unfold Up.v uv
  unfold wB sdB
  refine Wp.seq (Wp.text (md 5 (.pointer (some ⟨4, 0, none⟩)) (Blk.mk 26 true [Value.int .i64 (Up.op u), Value.int .i64 (Up.row u), Value.int .i64 (Up.col u), Value.int .i64 (Up.n u), Value.string (Up.t u)]) (kp 6 (.int .i64 0) (WpOps.nil (thenK_at (Wp.seq (Wp.seq (Wp.text (kp 8 (.pointer (some ⟨0, 0, none⟩)) (kp 9 (.int .i64 1) (cl 10 49 [Value.pointer (some ⟨0, 0, none⟩), Value.int .i64 1] ?_)))))))))))
  refine WpCall.side1 (by kernel_rfl) ?_
  refine kp 11 (.bool false) (WpOps.nil (thenK_at (off' (Wp.skip (thenK_at (Wp.seq (Wp.text (kp 12 (.pointer (some ⟨0, 0, none⟩)) (kp 13 (.pointer (some ⟨0, 0, none⟩)) (kp 14 (.pointer (some ⟨0, 0, none⟩)) (kp 15 (.slice (some ⟨1, 0, none⟩) 2 2) (kp 16 (.int .i64 1) (kp 17 (.pointer (some ⟨1, 10, none⟩)) (kp 7 (.pointer (some ⟨1, 10, none⟩)) (WpOps.nil (thenK_at (Wp.seq (Wp.seq (Wp.text (kp 18 (.pointer (some ⟨4, 0, none⟩)) (kp 19 (.int .i64 (Up.op u)) (kp 20 (.bool (Up.op u == 1)) (WpOps.nil (thenK_at ?_))))))))))))))))))))))))
  refine Wp.mergeH [(0, .pointer (some ⟨0, 0, none⟩)), (1, .int .i64 1), (5, .pointer (some ⟨4, 0, none⟩)), (6, .int .i64 0), (7, .pointer (some ⟨1, 10, none⟩))] (heapO [some (wB 1 (wyV y)), some (sdB a b (.slice none 0 0) (.slice (some ⟨3, 0, none⟩) l.length l.length)), wyB y, some (qB l), some ⟨26, true, uc (u.eff b.mark)⟩]) ?_ ?_
  · refine Wp.split (Up.op u == 1) (by kernel_rfl) (fun he => ?_) (fun he => ?_)
    · have hu : u.op = 1 := by simpa using he
      have ee : uc (u.eff b.mark) = [.int .i64 u.op, .int .i64 u.row, .int .i64 u.col, .int .i64 b.mark, .string u.t] := by unfold Up.eff; rw [if_pos hu]; rfl
      rw [ee]
      refine Wp.text (kp 21 (.pointer (some ⟨1, 10, none⟩)) (kp 22 (.pointer (some ⟨1, 10, none⟩)) (kp 23 (.pointer (some ⟨1, 18, none⟩)) (kp 24 (.int .i64 (Sd.mark b)) (kp 25 (.pointer (some ⟨4, 3, none⟩)) (ld (.tuple #[]) (4) (Blk.mk 26 true [Value.int .i64 (Up.op u), Value.int .i64 (Up.row u), Value.int .i64 (Up.col u), Value.int .i64 (Sd.mark b), Value.string (Up.t u)]) (WpOps.nil ?_)))))))
      exact ⟨rfl, viewW (by kernel_rfl) (by kernel_rfl) (stay_wy y) (stay_nil 3) (stay_sl 3 0 _ _) (optWy y (by kernel_rfl)) (optS (by kernel_rfl) (ucs_flat l)) (optS (by kernel_rfl) rfl) ⟨⟨by kernel_rfl, rfl⟩, ⟨by kernel_rfl, rfl⟩, ⟨by kernel_rfl, rfl⟩, ⟨by kernel_rfl, rfl⟩, ⟨by kernel_rfl, rfl⟩, trivial⟩⟩
    · have hu : ¬ u.op = 1 := by simpa using he
      have ee : uc (u.eff b.mark) = [.int .i64 u.op, .int .i64 u.row, .int .i64 u.col, .int .i64 u.n, .string u.t] := by unfold Up.eff; rw [if_neg hu]; rfl
      rw [ee]
      refine Wp.skip ?_
      exact ⟨rfl, viewW (by kernel_rfl) (by kernel_rfl) (stay_wy y) (stay_nil 3) (stay_sl 3 0 _ _) (optWy y (by kernel_rfl)) (optS (by kernel_rfl) (ucs_flat l)) (optS (by kernel_rfl) rfl) ⟨⟨by kernel_rfl, rfl⟩, ⟨by kernel_rfl, rfl⟩, ⟨by kernel_rfl, rfl⟩, ⟨by kernel_rfl, rfl⟩, ⟨by kernel_rfl, rfl⟩, trivial⟩⟩
  have eop : (u.eff b.mark).op = u.op := eff_op u _
  generalize (u.eff b.mark) = z at *
  unfold Dsp.v dv Up.v uv at c39
  unfold wB sdB uc
  refine Wp.seq (Wp.block (Wp.seq (Wp.region (by kernel_rfl) (kp 27 (.pointer (some ⟨1, 10, none⟩)) (kp 28 (.pointer (some ⟨1, 10, none⟩)) (kp 29 (.pointer (some ⟨1, 10, none⟩)) (kp 30 (.agg #[strs 0 (Dsp.r (Sd.shown b)), strs 0 (Dsp.m (Sd.shown b)), Value.int .i64 (Dsp.i (Sd.shown b)), Value.int .i64 (Dsp.j (Sd.shown b))]) (kp 31 (.agg #[Value.int .i64 (Up.op z), Value.int .i64 (Up.row z), Value.int .i64 (Up.col z), Value.int .i64 (Up.n z), Value.string (Up.t z)]) (fr 32 39 [Value.agg #[strs 0 (Dsp.r (Sd.shown b)), strs 0 (Dsp.m (Sd.shown b)), Value.int .i64 (Dsp.i (Sd.shown b)), Value.int .i64 (Dsp.j (Sd.shown b))], Value.agg #[Value.int .i64 (Up.op z), Value.int .i64 (Up.row z), Value.int .i64 (Up.col z), Value.int .i64 (Up.n z), Value.string (Up.t z)]] (WpFun.of (c39) (kp 33 (.bool false) (kp 26 (.bool false) (WpOps.nil (thenK_at (off' (Wp.seq (Wp.text (kp 35 (.pointer (some ⟨0, 0, none⟩)) (kp 36 (.pointer (some ⟨0, 0, none⟩)) (kp 37 (.pointer (some ⟨0, 1, none⟩)) (kp 38 (.int .i64 1) ?_)))))))))))))))))))))
  refine kp 39 (.int .i64 1) (kp 40 (.bool false) (kp 34 (.bool false) (WpOps.nil (thenK_at (off' (Wp.seq (Wp.text (kp 42 (.pointer (some ⟨1, 10, none⟩)) (kp 43 (.pointer (some ⟨1, 10, none⟩)) (kp 44 (.pointer (some ⟨1, 19, none⟩)) (kp 45 (.slice (some ⟨3, 0, none⟩) (List.length l) (List.length l)) (kp 46 (.int .i64 (List.length l)) (kp 47 (.bool true) (kp 41 (.bool true) (WpOps.nil (thenK_at (on' (Wp.seq (Wp.text (kp 6 (.int .i64 9) (WpOps.nil (thenK_at (Wp.ret (blockK_ret (thenK_ret (endK_retn [Value.int .i64 9] (Value.int .i64 9) (by kernel_rfl) (by kernel_rfl) ?_))))))))))))) (hop := fun _ => by_fact dl))))))))))))))
  exact endW (by kernel_rfl) (by kernel_rfl) (stay_wy y) (stay_nil 3) (stay_sl 3 0 _ _) (optWy y (by kernel_rfl)) (optS (by kernel_rfl) (ucs_flat l)) (.w (.un rfl rfl))
theorem upd22_N1 (y : Wy) (a b : Sd)  (u : Up) (hf : b.shown.fits (u.eff b.mark)) (ht : u.t.size ≤ 140737488351232) (hg : b.shown.good) :
    SCall E 22 [.pointer (some ⟨0, 0, none⟩), .int .i64 1, u.v] (heapO [some (wB 1 (wyV y)), some (sdB a b (.slice none 0 0) (.slice none 0 0)), wyB y, none]) (.int .i64 0) (heapO [some (wB 1 (wyV y)), some (sdB a ⟨b.shown.ap (u.eff b.mark), b.kept, (if u.op = 4 then (u.eff b.mark).n else b.mark)⟩ (.slice none 0 0) (.slice (some ⟨4, 0, none⟩) [u.eff b.mark].length [u.eff b.mark].length)), wyB y, none, some (qB [u.eff b.mark])]) := by
  have c40 := applyD b.shown (u.eff b.mark) hg hf
  have c39 := fitsD b.shown (u.eff b.mark) hg (by rw [eff_t]; exact ht)
  rw [decide_eq_true hf] at c39
  refine SCall.enterO f22 rfl (of_decide_eq_true (by kernel_rfl)) (by cases y <;> rfl) (by cases y <;> rfl) (Nat.le_succ _) ?_
  have h0 : ∀ z : Value, z = z := fun _ => rfl
  unfold Up.v uv
  unfold wB sdB
  refine Wp.seq (Wp.text (md 5 (.pointer (some ⟨4, 0, none⟩)) (Blk.mk 26 true [Value.int .i64 (Up.op u), Value.int .i64 (Up.row u), Value.int .i64 (Up.col u), Value.int .i64 (Up.n u), Value.string (Up.t u)]) (kp 6 (.int .i64 0) (WpOps.nil (thenK_at (Wp.seq (Wp.seq (Wp.text (kp 8 (.pointer (some ⟨0, 0, none⟩)) (kp 9 (.int .i64 1) (cl 10 49 [Value.pointer (some ⟨0, 0, none⟩), Value.int .i64 1] ?_)))))))))))
  refine WpCall.side1 (by kernel_rfl) ?_
  refine kp 11 (.bool false) (WpOps.nil (thenK_at (off' (Wp.skip (thenK_at (Wp.seq (Wp.text (kp 12 (.pointer (some ⟨0, 0, none⟩)) (kp 13 (.pointer (some ⟨0, 0, none⟩)) (kp 14 (.pointer (some ⟨0, 0, none⟩)) (kp 15 (.slice (some ⟨1, 0, none⟩) 2 2) (kp 16 (.int .i64 1) (kp 17 (.pointer (some ⟨1, 10, none⟩)) (kp 7 (.pointer (some ⟨1, 10, none⟩)) (WpOps.nil (thenK_at (Wp.seq (Wp.seq (Wp.text (kp 18 (.pointer (some ⟨4, 0, none⟩)) (kp 19 (.int .i64 (Up.op u)) (kp 20 (.bool (Up.op u == 1)) (WpOps.nil (thenK_at ?_))))))))))))))))))))))))
  refine Wp.mergeH [(0, .pointer (some ⟨0, 0, none⟩)), (1, .int .i64 1), (5, .pointer (some ⟨4, 0, none⟩)), (6, .int .i64 0), (7, .pointer (some ⟨1, 10, none⟩))] (heapO [some (wB 1 (wyV y)), some (sdB a b (.slice none 0 0) (.slice none 0 0)), wyB y, none, some ⟨26, true, uc (u.eff b.mark)⟩]) ?_ ?_
  · refine Wp.split (Up.op u == 1) (by kernel_rfl) (fun he => ?_) (fun he => ?_)
    · have hu : u.op = 1 := by simpa using he
      have ee : uc (u.eff b.mark) = [.int .i64 u.op, .int .i64 u.row, .int .i64 u.col, .int .i64 b.mark, .string u.t] := by unfold Up.eff; rw [if_pos hu]; rfl
      rw [ee]
      refine Wp.text (kp 21 (.pointer (some ⟨1, 10, none⟩)) (kp 22 (.pointer (some ⟨1, 10, none⟩)) (kp 23 (.pointer (some ⟨1, 18, none⟩)) (kp 24 (.int .i64 (Sd.mark b)) (kp 25 (.pointer (some ⟨4, 3, none⟩)) (ld (.tuple #[]) (4) (Blk.mk 26 true [Value.int .i64 (Up.op u), Value.int .i64 (Up.row u), Value.int .i64 (Up.col u), Value.int .i64 (Sd.mark b), Value.string (Up.t u)]) (WpOps.nil ?_)))))))
      exact ⟨rfl, viewW (by kernel_rfl) (by kernel_rfl) (stay_wy y) (stay_nil 3) (stay_nil 3) (optWy y (by kernel_rfl)) (optN _ _) (optS (by kernel_rfl) rfl) ⟨⟨by kernel_rfl, rfl⟩, ⟨by kernel_rfl, rfl⟩, ⟨by kernel_rfl, rfl⟩, ⟨by kernel_rfl, rfl⟩, ⟨by kernel_rfl, rfl⟩, trivial⟩⟩
    · have hu : ¬ u.op = 1 := by simpa using he
      have ee : uc (u.eff b.mark) = [.int .i64 u.op, .int .i64 u.row, .int .i64 u.col, .int .i64 u.n, .string u.t] := by unfold Up.eff; rw [if_neg hu]; rfl
      rw [ee]
      refine Wp.skip ?_
      exact ⟨rfl, viewW (by kernel_rfl) (by kernel_rfl) (stay_wy y) (stay_nil 3) (stay_nil 3) (optWy y (by kernel_rfl)) (optN _ _) (optS (by kernel_rfl) rfl) ⟨⟨by kernel_rfl, rfl⟩, ⟨by kernel_rfl, rfl⟩, ⟨by kernel_rfl, rfl⟩, ⟨by kernel_rfl, rfl⟩, ⟨by kernel_rfl, rfl⟩, trivial⟩⟩
  have eop : (u.eff b.mark).op = u.op := eff_op u _
  generalize (u.eff b.mark) = z at *
  unfold Dsp.v dv Up.v uv at c39 c40
  unfold wB sdB uc
  refine Wp.seq (Wp.block (Wp.seq (Wp.region (by kernel_rfl) (kp 27 (.pointer (some ⟨1, 10, none⟩)) (kp 28 (.pointer (some ⟨1, 10, none⟩)) (kp 29 (.pointer (some ⟨1, 10, none⟩)) (kp 30 (.agg #[strs 0 (Dsp.r (Sd.shown b)), strs 0 (Dsp.m (Sd.shown b)), Value.int .i64 (Dsp.i (Sd.shown b)), Value.int .i64 (Dsp.j (Sd.shown b))]) (kp 31 (.agg #[Value.int .i64 (Up.op z), Value.int .i64 (Up.row z), Value.int .i64 (Up.col z), Value.int .i64 (Up.n z), Value.string (Up.t z)]) (fr 32 39 [Value.agg #[strs 0 (Dsp.r (Sd.shown b)), strs 0 (Dsp.m (Sd.shown b)), Value.int .i64 (Dsp.i (Sd.shown b)), Value.int .i64 (Dsp.j (Sd.shown b))], Value.agg #[Value.int .i64 (Up.op z), Value.int .i64 (Up.row z), Value.int .i64 (Up.col z), Value.int .i64 (Up.n z), Value.string (Up.t z)]] (WpFun.of (c39) (kp 33 (.bool false) (kp 26 (.bool false) (WpOps.nil (thenK_at (off' (Wp.seq (Wp.text (kp 35 (.pointer (some ⟨0, 0, none⟩)) (kp 36 (.pointer (some ⟨0, 0, none⟩)) (kp 37 (.pointer (some ⟨0, 1, none⟩)) (kp 38 (.int .i64 1) ?_)))))))))))))))))))))
  refine kp 39 (.int .i64 1) (kp 40 (.bool false) (kp 34 (.bool false) (WpOps.nil (thenK_at (off' (Wp.seq (Wp.text (kp 42 (.pointer (some ⟨1, 10, none⟩)) (kp 43 (.pointer (some ⟨1, 10, none⟩)) (kp 44 (.pointer (some ⟨1, 19, none⟩)) (kp 45 (.slice none 0 0) (kp 46 (.int .i64 (↑0 : Int)) (kp 47 (.bool false) (kp 41 (.bool false) (WpOps.nil (thenK_at (off' (Wp.skip (blockK_norm (thenK_at (Wp.seq (Wp.seq (Wp.text (kp 48 (.pointer (some ⟨4, 0, none⟩)) (kp 49 (.int .i64 (Up.op z)) (kp 50 (.bool (Up.op z == 4)) (WpOps.nil (thenK_at ?_))))))))))))))))))))))))))))
  refine Wp.mergeH [(0, .pointer (some ⟨0, 0, none⟩)), (1, .int .i64 1), (5, .pointer (some ⟨4, 0, none⟩)), (6, .int .i64 0), (7, .pointer (some ⟨1, 10, none⟩))] (heapO [some (wB 1 (wyV y)), some (sdB a ⟨b.shown, b.kept, (if u.op = 4 then z.n else b.mark)⟩ (.slice none 0 0) (.slice none 0 0)), wyB y, none, some ⟨26, true, uc z⟩]) ?_ ?_
  · refine Wp.split (Up.op z == 4) (by kernel_rfl) (fun he => ?_) (fun he => ?_)
    · have hu : u.op = 4 := by rw [← eop]; simpa using he
      rw [if_pos hu]
      refine Wp.text (kp 51 (.pointer (some ⟨1, 10, none⟩)) (kp 52 (.pointer (some ⟨4, 3, none⟩)) (kp 53 (.int .i64 (Up.n z)) (kp 54 (.pointer (some ⟨1, 10, none⟩)) (kp 55 (.pointer (some ⟨1, 18, none⟩)) (ld (.tuple #[]) (1) (Blk.mk 83 true [strs 0 (Dsp.r (Sd.shown a)), strs 0 (Dsp.m (Sd.shown a)), Value.int .i64 (Dsp.i (Sd.shown a)), Value.int .i64 (Dsp.j (Sd.shown a)), strs 0 (Dsp.r (Sd.kept a)), strs 0 (Dsp.m (Sd.kept a)), Value.int .i64 (Dsp.i (Sd.kept a)), Value.int .i64 (Dsp.j (Sd.kept a)), Value.int .i64 (Sd.mark a), Value.slice none 0 0, strs 0 (Dsp.r (Sd.shown b)), strs 0 (Dsp.m (Sd.shown b)), Value.int .i64 (Dsp.i (Sd.shown b)), Value.int .i64 (Dsp.j (Sd.shown b)), strs 0 (Dsp.r (Sd.kept b)), strs 0 (Dsp.m (Sd.kept b)), Value.int .i64 (Dsp.i (Sd.kept b)), Value.int .i64 (Dsp.j (Sd.kept b)), Value.int .i64 (Up.n z), Value.slice none 0 0]) ?_))))))
      refine WpOps.nil ?_
      exact ⟨rfl, viewW (by kernel_rfl) (by kernel_rfl) (stay_wy y) (stay_nil 3) (stay_nil 3) (optWy y (by kernel_rfl)) (optN _ _) (optS (by kernel_rfl) rfl) ⟨⟨by kernel_rfl, rfl⟩, ⟨by kernel_rfl, rfl⟩, ⟨by kernel_rfl, rfl⟩, ⟨by kernel_rfl, rfl⟩, ⟨by kernel_rfl, rfl⟩, trivial⟩⟩
    · have hu : ¬ u.op = 4 := by rw [← eop]; simpa using he
      rw [if_neg hu]
      refine Wp.skip ?_
      exact ⟨rfl, viewW (by kernel_rfl) (by kernel_rfl) (stay_wy y) (stay_nil 3) (stay_nil 3) (optWy y (by kernel_rfl)) (optN _ _) (optS (by kernel_rfl) rfl) ⟨⟨by kernel_rfl, rfl⟩, ⟨by kernel_rfl, rfl⟩, ⟨by kernel_rfl, rfl⟩, ⟨by kernel_rfl, rfl⟩, ⟨by kernel_rfl, rfl⟩, trivial⟩⟩
  generalize (if u.op = 4 then z.n else b.mark) = mz
  unfold wB sdB uc
  refine Wp.seq (Wp.region (by kernel_rfl) (kp 56 (.pointer (some ⟨1, 10, none⟩)) (kp 57 (.pointer (some ⟨1, 10, none⟩)) (kp 58 (.pointer (some ⟨1, 10, none⟩)) (kp 59 (.pointer (some ⟨1, 10, none⟩)) (kp 60 (.agg #[strs 0 (Dsp.r (Sd.shown (Sd.mk (Sd.shown b) (Sd.kept b) mz))), strs 0 (Dsp.m (Sd.shown (Sd.mk (Sd.shown b) (Sd.kept b) mz))), Value.int .i64 (Dsp.i (Sd.shown (Sd.mk (Sd.shown b) (Sd.kept b) mz))), Value.int .i64 (Dsp.j (Sd.shown (Sd.mk (Sd.shown b) (Sd.kept b) mz)))]) (kp 61 (.agg #[Value.int .i64 (Up.op z), Value.int .i64 (Up.row z), Value.int .i64 (Up.col z), Value.int .i64 (Up.n z), Value.string (Up.t z)]) (fr 62 40 [Value.agg #[strs 0 (Dsp.r (Sd.shown (Sd.mk (Sd.shown b) (Sd.kept b) mz))), strs 0 (Dsp.m (Sd.shown (Sd.mk (Sd.shown b) (Sd.kept b) mz))), Value.int .i64 (Dsp.i (Sd.shown (Sd.mk (Sd.shown b) (Sd.kept b) mz))), Value.int .i64 (Dsp.j (Sd.shown (Sd.mk (Sd.shown b) (Sd.kept b) mz)))], Value.agg #[Value.int .i64 (Up.op z), Value.int .i64 (Up.row z), Value.int .i64 (Up.col z), Value.int .i64 (Up.n z), Value.string (Up.t z)]] ?_))))))))
  refine WpFun.of (c40) (kp 63 (.pointer (some ⟨1, 10, none⟩)) (kp 64 (.pointer (some ⟨1, 10, none⟩)) (ld (.tuple #[]) (1) (Blk.mk 83 true [strs 0 (Dsp.r (Sd.shown a)), strs 0 (Dsp.m (Sd.shown a)), Value.int .i64 (Dsp.i (Sd.shown a)), Value.int .i64 (Dsp.j (Sd.shown a)), strs 0 (Dsp.r (Sd.kept a)), strs 0 (Dsp.m (Sd.kept a)), Value.int .i64 (Dsp.i (Sd.kept a)), Value.int .i64 (Dsp.j (Sd.kept a)), Value.int .i64 (Sd.mark a), Value.slice none 0 0, strs 0 (Dsp.r (Dsp.ap (Sd.shown b) z)), strs 0 (Dsp.m (Dsp.ap (Sd.shown b) z)), Value.int .i64 (Dsp.i (Dsp.ap (Sd.shown b) z)), Value.int .i64 (Dsp.j (Dsp.ap (Sd.shown b) z)), strs 0 (Dsp.r (Sd.kept (Sd.mk (Sd.shown b) (Sd.kept b) mz))), strs 0 (Dsp.m (Sd.kept (Sd.mk (Sd.shown b) (Sd.kept b) mz))), Value.int .i64 (Dsp.i (Sd.kept (Sd.mk (Sd.shown b) (Sd.kept b) mz))), Value.int .i64 (Dsp.j (Sd.kept (Sd.mk (Sd.shown b) (Sd.kept b) mz))), Value.int .i64 (Sd.mark (Sd.mk (Sd.shown b) (Sd.kept b) mz)), Value.slice none 0 0]) ?_)))
  refine WpOps.nil (thenK_at (Wp.seq (Wp.region (by kernel_rfl) (kp 65 (.pointer (some ⟨1, 10, none⟩)) (kp 66 (.pointer (some ⟨1, 10, none⟩)) (kp 67 (.pointer (some ⟨1, 10, none⟩)) (kp 68 (.pointer (some ⟨1, 19, none⟩)) (kp 69 (.slice none 0 0) (kp 70 (.agg #[Value.int .i64 (Up.op z), Value.int .i64 (Up.row z), Value.int .i64 (Up.col z), Value.int .i64 (Up.n z), Value.string (Up.t z)]) (md 71 (.slice (some ⟨5, 0, none⟩) 1 1) (Blk.mk 26 true [Value.int .i64 (Up.op z), Value.int .i64 (Up.row z), Value.int .i64 (Up.col z), Value.int .i64 (Up.n z), Value.string (Up.t z)]) (md 72 (.slice (some ⟨6, 0, none⟩) 1 1) (Blk.mk 26 true [Value.int .i64 (Up.op z), Value.int .i64 (Up.row z), Value.int .i64 (Up.col z), Value.int .i64 (Up.n z), Value.string (Up.t z)]) (kp 73 (.pointer (some ⟨1, 10, none⟩)) (kp 74 (.pointer (some ⟨1, 19, none⟩)) (ld (.tuple #[]) (1) (Blk.mk 83 true [strs 0 (Dsp.r (Sd.shown a)), strs 0 (Dsp.m (Sd.shown a)), Value.int .i64 (Dsp.i (Sd.shown a)), Value.int .i64 (Dsp.j (Sd.shown a)), strs 0 (Dsp.r (Sd.kept a)), strs 0 (Dsp.m (Sd.kept a)), Value.int .i64 (Dsp.i (Sd.kept a)), Value.int .i64 (Dsp.j (Sd.kept a)), Value.int .i64 (Sd.mark a), Value.slice none 0 0, strs 0 (Dsp.r (Dsp.ap (Sd.shown b) z)), strs 0 (Dsp.m (Dsp.ap (Sd.shown b) z)), Value.int .i64 (Dsp.i (Dsp.ap (Sd.shown b) z)), Value.int .i64 (Dsp.j (Dsp.ap (Sd.shown b) z)), strs 0 (Dsp.r (Sd.kept (Sd.mk (Sd.shown b) (Sd.kept b) mz))), strs 0 (Dsp.m (Sd.kept (Sd.mk (Sd.shown b) (Sd.kept b) mz))), Value.int .i64 (Dsp.i (Sd.kept (Sd.mk (Sd.shown b) (Sd.kept b) mz))), Value.int .i64 (Dsp.j (Sd.kept (Sd.mk (Sd.shown b) (Sd.kept b) mz))), Value.int .i64 (Sd.mark (Sd.mk (Sd.shown b) (Sd.kept b) mz)), Value.slice (some ⟨6, 0, none⟩) 1 1]) ?_))))))))))))))
  refine WpOps.nil (thenK_at (Wp.seq (Wp.text (kp 6 (.int .i64 0) (WpOps.nil (thenK_at (Wp.ret (endK_retn [Value.int .i64 0] (Value.int .i64 0) (by kernel_rfl) (by kernel_rfl) ?_))))))))
  exact endW5 6 (qB [z]) (by decide) (by kernel_rfl) (by kernel_rfl) (stay_wy y _ _ rfl (by decide)) ⟨rfl, rfl⟩ ⟨rfl, rfl⟩ (optWy y (by kernel_rfl)) (optN _ _) (optS (by kernel_rfl) rfl) (.w (.un rfl rfl))
theorem upd22_O1 (y : Wy) (a b : Sd) (l : List Up) (hl : l.length < 100) (u : Up) (hf : b.shown.fits (u.eff b.mark)) (ht : u.t.size ≤ 140737488351232) (hg : b.shown.good) :
    SCall E 22 [.pointer (some ⟨0, 0, none⟩), .int .i64 1, u.v] (heapO [some (wB 1 (wyV y)), some (sdB a b (.slice none 0 0) (.slice (some ⟨3, 0, none⟩) l.length l.length)), wyB y, some (qB l)]) (.int .i64 0) (heapO [some (wB 1 (wyV y)), some (sdB a ⟨b.shown.ap (u.eff b.mark), b.kept, (if u.op = 4 then (u.eff b.mark).n else b.mark)⟩ (.slice none 0 0) (.slice (some ⟨4, 0, none⟩) (l ++ [u.eff b.mark]).length (l ++ [u.eff b.mark]).length)), wyB y, none, some (qB (l ++ [u.eff b.mark]))]) := by
  have dl : decide ((l.length : Int) ≥ 100) = false := decide_eq_false (by omega)
  have hfl : (qB l).cells.all flat = true := ucs_flat l
  have q0 : cellsAt (qB l).cells 0 (l.length * 5) = some (ucs l) := ucs_all l
  have q1 : ¬ l.length + 1 ≤ l.length := by omega
  have q2 : 1 ≤ 48 ∧ (l.length + 1) * 48 ≤ 140737488355328 ∧ 5 = 5 ∧ l.length + 1 ≤ 9223372036854775807 := by omega
  have c40 := applyD b.shown (u.eff b.mark) hg hf
  have c39 := fitsD b.shown (u.eff b.mark) hg (by rw [eff_t]; exact ht)
  rw [decide_eq_true hf] at c39
  refine SCall.enterO f22 rfl (of_decide_eq_true (by kernel_rfl)) (by cases y <;> rfl) (by cases y <;> rfl) (Nat.le_succ _) ?_
  have h0 : ∀ z : Value, z = z := fun _ => rfl
  unfold Up.v uv
  unfold wB sdB
  refine Wp.seq (Wp.text (md 5 (.pointer (some ⟨4, 0, none⟩)) (Blk.mk 26 true [Value.int .i64 (Up.op u), Value.int .i64 (Up.row u), Value.int .i64 (Up.col u), Value.int .i64 (Up.n u), Value.string (Up.t u)]) (kp 6 (.int .i64 0) (WpOps.nil (thenK_at (Wp.seq (Wp.seq (Wp.text (kp 8 (.pointer (some ⟨0, 0, none⟩)) (kp 9 (.int .i64 1) (cl 10 49 [Value.pointer (some ⟨0, 0, none⟩), Value.int .i64 1] ?_)))))))))))
  refine WpCall.side1 (by kernel_rfl) ?_
  refine kp 11 (.bool false) (WpOps.nil (thenK_at (off' (Wp.skip (thenK_at (Wp.seq (Wp.text (kp 12 (.pointer (some ⟨0, 0, none⟩)) (kp 13 (.pointer (some ⟨0, 0, none⟩)) (kp 14 (.pointer (some ⟨0, 0, none⟩)) (kp 15 (.slice (some ⟨1, 0, none⟩) 2 2) (kp 16 (.int .i64 1) (kp 17 (.pointer (some ⟨1, 10, none⟩)) (kp 7 (.pointer (some ⟨1, 10, none⟩)) (WpOps.nil (thenK_at (Wp.seq (Wp.seq (Wp.text (kp 18 (.pointer (some ⟨4, 0, none⟩)) (kp 19 (.int .i64 (Up.op u)) (kp 20 (.bool (Up.op u == 1)) (WpOps.nil (thenK_at ?_))))))))))))))))))))))))
  refine Wp.mergeH [(0, .pointer (some ⟨0, 0, none⟩)), (1, .int .i64 1), (5, .pointer (some ⟨4, 0, none⟩)), (6, .int .i64 0), (7, .pointer (some ⟨1, 10, none⟩))] (heapO [some (wB 1 (wyV y)), some (sdB a b (.slice none 0 0) (.slice (some ⟨3, 0, none⟩) l.length l.length)), wyB y, some (qB l), some ⟨26, true, uc (u.eff b.mark)⟩]) ?_ ?_
  · refine Wp.split (Up.op u == 1) (by kernel_rfl) (fun he => ?_) (fun he => ?_)
    · have hu : u.op = 1 := by simpa using he
      have ee : uc (u.eff b.mark) = [.int .i64 u.op, .int .i64 u.row, .int .i64 u.col, .int .i64 b.mark, .string u.t] := by unfold Up.eff; rw [if_pos hu]; rfl
      rw [ee]
      refine Wp.text (kp 21 (.pointer (some ⟨1, 10, none⟩)) (kp 22 (.pointer (some ⟨1, 10, none⟩)) (kp 23 (.pointer (some ⟨1, 18, none⟩)) (kp 24 (.int .i64 (Sd.mark b)) (kp 25 (.pointer (some ⟨4, 3, none⟩)) (ld (.tuple #[]) (4) (Blk.mk 26 true [Value.int .i64 (Up.op u), Value.int .i64 (Up.row u), Value.int .i64 (Up.col u), Value.int .i64 (Sd.mark b), Value.string (Up.t u)]) (WpOps.nil ?_)))))))
      exact ⟨rfl, viewW (by kernel_rfl) (by kernel_rfl) (stay_wy y) (stay_nil 3) (stay_sl 3 0 _ _) (optWy y (by kernel_rfl)) (optS (by kernel_rfl) (ucs_flat l)) (optS (by kernel_rfl) rfl) ⟨⟨by kernel_rfl, rfl⟩, ⟨by kernel_rfl, rfl⟩, ⟨by kernel_rfl, rfl⟩, ⟨by kernel_rfl, rfl⟩, ⟨by kernel_rfl, rfl⟩, trivial⟩⟩
    · have hu : ¬ u.op = 1 := by simpa using he
      have ee : uc (u.eff b.mark) = [.int .i64 u.op, .int .i64 u.row, .int .i64 u.col, .int .i64 u.n, .string u.t] := by unfold Up.eff; rw [if_neg hu]; rfl
      rw [ee]
      refine Wp.skip ?_
      exact ⟨rfl, viewW (by kernel_rfl) (by kernel_rfl) (stay_wy y) (stay_nil 3) (stay_sl 3 0 _ _) (optWy y (by kernel_rfl)) (optS (by kernel_rfl) (ucs_flat l)) (optS (by kernel_rfl) rfl) ⟨⟨by kernel_rfl, rfl⟩, ⟨by kernel_rfl, rfl⟩, ⟨by kernel_rfl, rfl⟩, ⟨by kernel_rfl, rfl⟩, ⟨by kernel_rfl, rfl⟩, trivial⟩⟩
  have eop : (u.eff b.mark).op = u.op := eff_op u _
  generalize (u.eff b.mark) = z at *
  unfold Dsp.v dv Up.v uv at c39 c40
  unfold wB sdB uc
  refine Wp.seq (Wp.block (Wp.seq (Wp.region (by kernel_rfl) (kp 27 (.pointer (some ⟨1, 10, none⟩)) (kp 28 (.pointer (some ⟨1, 10, none⟩)) (kp 29 (.pointer (some ⟨1, 10, none⟩)) (kp 30 (.agg #[strs 0 (Dsp.r (Sd.shown b)), strs 0 (Dsp.m (Sd.shown b)), Value.int .i64 (Dsp.i (Sd.shown b)), Value.int .i64 (Dsp.j (Sd.shown b))]) (kp 31 (.agg #[Value.int .i64 (Up.op z), Value.int .i64 (Up.row z), Value.int .i64 (Up.col z), Value.int .i64 (Up.n z), Value.string (Up.t z)]) (fr 32 39 [Value.agg #[strs 0 (Dsp.r (Sd.shown b)), strs 0 (Dsp.m (Sd.shown b)), Value.int .i64 (Dsp.i (Sd.shown b)), Value.int .i64 (Dsp.j (Sd.shown b))], Value.agg #[Value.int .i64 (Up.op z), Value.int .i64 (Up.row z), Value.int .i64 (Up.col z), Value.int .i64 (Up.n z), Value.string (Up.t z)]] (WpFun.of (c39) (kp 33 (.bool false) (kp 26 (.bool false) (WpOps.nil (thenK_at (off' (Wp.seq (Wp.text (kp 35 (.pointer (some ⟨0, 0, none⟩)) (kp 36 (.pointer (some ⟨0, 0, none⟩)) (kp 37 (.pointer (some ⟨0, 1, none⟩)) (kp 38 (.int .i64 1) ?_)))))))))))))))))))))
  refine kp 39 (.int .i64 1) (kp 40 (.bool false) (kp 34 (.bool false) (WpOps.nil (thenK_at (off' (Wp.seq (Wp.text (kp 42 (.pointer (some ⟨1, 10, none⟩)) (kp 43 (.pointer (some ⟨1, 10, none⟩)) (kp 44 (.pointer (some ⟨1, 19, none⟩)) (kp 45 (.slice (some ⟨3, 0, none⟩) (List.length l) (List.length l)) (kp 46 (.int .i64 (List.length l)) (kp 47 (.bool false) (kp 41 (.bool false) (WpOps.nil (thenK_at (off' (Wp.skip (blockK_norm (thenK_at (Wp.seq (Wp.seq (Wp.text (kp 48 (.pointer (some ⟨4, 0, none⟩)) (kp 49 (.int .i64 (Up.op z)) (kp 50 (.bool (Up.op z == 4)) (WpOps.nil (thenK_at ?_))))))))))))))) (hop := fun _ => by_fact dl))))))))))))))
  refine Wp.mergeH [(0, .pointer (some ⟨0, 0, none⟩)), (1, .int .i64 1), (5, .pointer (some ⟨4, 0, none⟩)), (6, .int .i64 0), (7, .pointer (some ⟨1, 10, none⟩))] (heapO [some (wB 1 (wyV y)), some (sdB a ⟨b.shown, b.kept, (if u.op = 4 then z.n else b.mark)⟩ (.slice none 0 0) (.slice (some ⟨3, 0, none⟩) l.length l.length)), wyB y, some (qB l), some ⟨26, true, uc z⟩]) ?_ ?_
  · refine Wp.split (Up.op z == 4) (by kernel_rfl) (fun he => ?_) (fun he => ?_)
    · have hu : u.op = 4 := by rw [← eop]; simpa using he
      rw [if_pos hu]
      refine Wp.text (kp 51 (.pointer (some ⟨1, 10, none⟩)) (kp 52 (.pointer (some ⟨4, 3, none⟩)) (kp 53 (.int .i64 (Up.n z)) (kp 54 (.pointer (some ⟨1, 10, none⟩)) (kp 55 (.pointer (some ⟨1, 18, none⟩)) (ld (.tuple #[]) (1) (Blk.mk 83 true [strs 0 (Dsp.r (Sd.shown a)), strs 0 (Dsp.m (Sd.shown a)), Value.int .i64 (Dsp.i (Sd.shown a)), Value.int .i64 (Dsp.j (Sd.shown a)), strs 0 (Dsp.r (Sd.kept a)), strs 0 (Dsp.m (Sd.kept a)), Value.int .i64 (Dsp.i (Sd.kept a)), Value.int .i64 (Dsp.j (Sd.kept a)), Value.int .i64 (Sd.mark a), Value.slice none 0 0, strs 0 (Dsp.r (Sd.shown b)), strs 0 (Dsp.m (Sd.shown b)), Value.int .i64 (Dsp.i (Sd.shown b)), Value.int .i64 (Dsp.j (Sd.shown b)), strs 0 (Dsp.r (Sd.kept b)), strs 0 (Dsp.m (Sd.kept b)), Value.int .i64 (Dsp.i (Sd.kept b)), Value.int .i64 (Dsp.j (Sd.kept b)), Value.int .i64 (Up.n z), Value.slice (some ⟨3, 0, none⟩) (List.length l) (List.length l)]) ?_))))))
      refine WpOps.nil ?_
      exact ⟨rfl, viewW (by kernel_rfl) (by kernel_rfl) (stay_wy y) (stay_nil 3) (stay_sl 3 0 _ _) (optWy y (by kernel_rfl)) (optS (by kernel_rfl) (ucs_flat l)) (optS (by kernel_rfl) rfl) ⟨⟨by kernel_rfl, rfl⟩, ⟨by kernel_rfl, rfl⟩, ⟨by kernel_rfl, rfl⟩, ⟨by kernel_rfl, rfl⟩, ⟨by kernel_rfl, rfl⟩, trivial⟩⟩
    · have hu : ¬ u.op = 4 := by rw [← eop]; simpa using he
      rw [if_neg hu]
      refine Wp.skip ?_
      exact ⟨rfl, viewW (by kernel_rfl) (by kernel_rfl) (stay_wy y) (stay_nil 3) (stay_sl 3 0 _ _) (optWy y (by kernel_rfl)) (optS (by kernel_rfl) (ucs_flat l)) (optS (by kernel_rfl) rfl) ⟨⟨by kernel_rfl, rfl⟩, ⟨by kernel_rfl, rfl⟩, ⟨by kernel_rfl, rfl⟩, ⟨by kernel_rfl, rfl⟩, ⟨by kernel_rfl, rfl⟩, trivial⟩⟩
  generalize (if u.op = 4 then z.n else b.mark) = mz
  unfold wB sdB uc
  refine Wp.seq (Wp.region (by kernel_rfl) (kp 56 (.pointer (some ⟨1, 10, none⟩)) (kp 57 (.pointer (some ⟨1, 10, none⟩)) (kp 58 (.pointer (some ⟨1, 10, none⟩)) (kp 59 (.pointer (some ⟨1, 10, none⟩)) (kp 60 (.agg #[strs 0 (Dsp.r (Sd.shown (Sd.mk (Sd.shown b) (Sd.kept b) mz))), strs 0 (Dsp.m (Sd.shown (Sd.mk (Sd.shown b) (Sd.kept b) mz))), Value.int .i64 (Dsp.i (Sd.shown (Sd.mk (Sd.shown b) (Sd.kept b) mz))), Value.int .i64 (Dsp.j (Sd.shown (Sd.mk (Sd.shown b) (Sd.kept b) mz)))]) (kp 61 (.agg #[Value.int .i64 (Up.op z), Value.int .i64 (Up.row z), Value.int .i64 (Up.col z), Value.int .i64 (Up.n z), Value.string (Up.t z)]) (fr 62 40 [Value.agg #[strs 0 (Dsp.r (Sd.shown (Sd.mk (Sd.shown b) (Sd.kept b) mz))), strs 0 (Dsp.m (Sd.shown (Sd.mk (Sd.shown b) (Sd.kept b) mz))), Value.int .i64 (Dsp.i (Sd.shown (Sd.mk (Sd.shown b) (Sd.kept b) mz))), Value.int .i64 (Dsp.j (Sd.shown (Sd.mk (Sd.shown b) (Sd.kept b) mz)))], Value.agg #[Value.int .i64 (Up.op z), Value.int .i64 (Up.row z), Value.int .i64 (Up.col z), Value.int .i64 (Up.n z), Value.string (Up.t z)]] ?_))))))))
  refine WpFun.of (c40) (kp 63 (.pointer (some ⟨1, 10, none⟩)) (kp 64 (.pointer (some ⟨1, 10, none⟩)) (ld (.tuple #[]) (1) (Blk.mk 83 true [strs 0 (Dsp.r (Sd.shown a)), strs 0 (Dsp.m (Sd.shown a)), Value.int .i64 (Dsp.i (Sd.shown a)), Value.int .i64 (Dsp.j (Sd.shown a)), strs 0 (Dsp.r (Sd.kept a)), strs 0 (Dsp.m (Sd.kept a)), Value.int .i64 (Dsp.i (Sd.kept a)), Value.int .i64 (Dsp.j (Sd.kept a)), Value.int .i64 (Sd.mark a), Value.slice none 0 0, strs 0 (Dsp.r (Dsp.ap (Sd.shown b) z)), strs 0 (Dsp.m (Dsp.ap (Sd.shown b) z)), Value.int .i64 (Dsp.i (Dsp.ap (Sd.shown b) z)), Value.int .i64 (Dsp.j (Dsp.ap (Sd.shown b) z)), strs 0 (Dsp.r (Sd.kept (Sd.mk (Sd.shown b) (Sd.kept b) mz))), strs 0 (Dsp.m (Sd.kept (Sd.mk (Sd.shown b) (Sd.kept b) mz))), Value.int .i64 (Dsp.i (Sd.kept (Sd.mk (Sd.shown b) (Sd.kept b) mz))), Value.int .i64 (Dsp.j (Sd.kept (Sd.mk (Sd.shown b) (Sd.kept b) mz))), Value.int .i64 (Sd.mark (Sd.mk (Sd.shown b) (Sd.kept b) mz)), Value.slice (some ⟨3, 0, none⟩) (List.length l) (List.length l)]) ?_)))
  refine WpOps.nil (thenK_at (Wp.seq (Wp.region (by kernel_rfl) (kp 65 (.pointer (some ⟨1, 10, none⟩)) (kp 66 (.pointer (some ⟨1, 10, none⟩)) (kp 67 (.pointer (some ⟨1, 10, none⟩)) (kp 68 (.pointer (some ⟨1, 19, none⟩)) (kp 69 (.slice (some ⟨3, 0, none⟩) (List.length l) (List.length l)) (kp 70 (.agg #[Value.int .i64 (Up.op z), Value.int .i64 (Up.row z), Value.int .i64 (Up.col z), Value.int .i64 (Up.n z), Value.string (Up.t z)]) (md 71 (.slice (some ⟨5, 0, none⟩) 1 1) (Blk.mk 26 true [Value.int .i64 (Up.op z), Value.int .i64 (Up.row z), Value.int .i64 (Up.col z), Value.int .i64 (Up.n z), Value.string (Up.t z)]) ?_))))))))))
  refine ra 72 (.slice (some ⟨6, 0, none⟩) (List.length l + 1) (List.length l + 1)) (3) (Blk.mk 26 true (ucs l ++ [Value.int .i64 (Up.op z), Value.int .i64 (Up.row z), Value.int .i64 (Up.col z), Value.int .i64 (Up.n z), Value.string (Up.t z)])) ?_ (hop := fun _ => o_append (e := 26) (3) (0) (List.length l) _ (List.length l) q1 q2 q0)
  refine kp 73 (.pointer (some ⟨1, 10, none⟩)) (kp 74 (.pointer (some ⟨1, 19, none⟩)) (ld (.tuple #[]) (1) (Blk.mk 83 true [strs 0 (Dsp.r (Sd.shown a)), strs 0 (Dsp.m (Sd.shown a)), Value.int .i64 (Dsp.i (Sd.shown a)), Value.int .i64 (Dsp.j (Sd.shown a)), strs 0 (Dsp.r (Sd.kept a)), strs 0 (Dsp.m (Sd.kept a)), Value.int .i64 (Dsp.i (Sd.kept a)), Value.int .i64 (Dsp.j (Sd.kept a)), Value.int .i64 (Sd.mark a), Value.slice none 0 0, strs 0 (Dsp.r (Dsp.ap (Sd.shown b) z)), strs 0 (Dsp.m (Dsp.ap (Sd.shown b) z)), Value.int .i64 (Dsp.i (Dsp.ap (Sd.shown b) z)), Value.int .i64 (Dsp.j (Dsp.ap (Sd.shown b) z)), strs 0 (Dsp.r (Sd.kept (Sd.mk (Sd.shown b) (Sd.kept b) mz))), strs 0 (Dsp.m (Sd.kept (Sd.mk (Sd.shown b) (Sd.kept b) mz))), Value.int .i64 (Dsp.i (Sd.kept (Sd.mk (Sd.shown b) (Sd.kept b) mz))), Value.int .i64 (Dsp.j (Sd.kept (Sd.mk (Sd.shown b) (Sd.kept b) mz))), Value.int .i64 (Sd.mark (Sd.mk (Sd.shown b) (Sd.kept b) mz)), Value.slice (some ⟨6, 0, none⟩) (List.length l + 1) (List.length l + 1)]) ?_))
  refine WpOps.nil (thenK_at (Wp.seq (Wp.text (kp 6 (.int .i64 0) (WpOps.nil (thenK_at (Wp.ret (endK_retn [Value.int .i64 0] (Value.int .i64 0) (by kernel_rfl) (by kernel_rfl) ?_))))))))
  have r1 : ucs l ++ [.int .i64 z.op, .int .i64 z.row, .int .i64 z.col, .int .i64 z.n, .string z.t] = ucs (l ++ [z]) := (ucs_app l [z]).symm
  have r2 : l.length + 1 = (l ++ [z]).length := by simp
  rw [r1, r2]
  exact endW5 6 (qB (l ++ [z])) (by decide) (by kernel_rfl) (by kernel_rfl) (stay_wy y _ _ rfl (by decide)) ⟨rfl, rfl⟩ ⟨rfl, rfl⟩ (optWy y (by kernel_rfl)) (optN _ _) (optS (by kernel_rfl) (ucs_flat _)) (.w (.un rfl rfl))
end Go.Proofs.Ytlejgfeoffhjoaa.D
