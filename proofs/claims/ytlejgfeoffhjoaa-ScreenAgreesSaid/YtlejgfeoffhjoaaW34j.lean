/- What comes, and a break: what may have become of a world. -/
import Derived.Test.YtlejgfeoffhjoaaW34g
namespace Go.Proofs.Ytlejgfeoffhjoaa.D
open Go.Fw Go.RowKit

theorem qV_own {l : List Up} (h : l ≠ []) : qV l = .slice (some ⟨3, 0, none⟩) l.length l.length := if_neg h
theorem qO_own {l : List Up} (h : l ≠ []) : qO l = some (qB l) := if_neg h
theorem mem0 (a b : Sd) {l : List Up} (y : Wy) (h : l ≠ []) : memW ⟨0, a, b, l, y⟩ = [some (wB 0 (wyV y)), some (sdB a b (.slice (some ⟨3, 0, none⟩) l.length l.length) (.slice none 0 0)), wyB y, some (qB l)] := by
  unfold memW w0 w1
  dsimp only
  rw [if_pos rfl, if_neg (by decide), qV_own h, qO_own h]
theorem mem1 (a b : Sd) {l : List Up} (y : Wy) (h : l ≠ []) : memW ⟨1, a, b, l, y⟩ = [some (wB 1 (wyV y)), some (sdB a b (.slice none 0 0) (.slice (some ⟨3, 0, none⟩) l.length l.length)), wyB y, some (qB l)] := by
  unfold memW w0 w1
  dsimp only
  rw [if_neg (by decide), if_pos rfl, qV_own h, qO_own h]
theorem w0_nil {w : Wd} (h : w.l = []) : w0 w = .slice none 0 0 := by
  unfold w0 qV
  rw [h]
  split <;> rfl
theorem w1_nil {w : Wd} (h : w.l = []) : w1 w = .slice none 0 0 := by
  unfold w1 qV
  rw [h]
  split <;> rfl
theorem memN (t : Int) (a b : Sd) (y : Wy) : memW ⟨t, a, b, [], y⟩ = [some (wB t (wyV y)), some (sdB a b (.slice none 0 0) (.slice none 0 0)), wyB y, none] := by
  unfold memW
  rw [w0_nil rfl, w1_nil rfl]
  rfl
theorem wy_ids (y : Wy) : unC (idsOf [0, 1, 2, 3] 5 5) (wyV y) = wyV y := (stay_wy y _ 5 rfl (by decide)).1.symm
/-- What waits was moved, at the one side or at the other. -/
theorem fin0 {w : Wd} {x : Blk} (hx : x.cells.all flat = true) (a b : Sd) {l : List Up} (y : Wy) (h : l ≠ []) : VW (layR (memX w x) [0, 1, 2, 3] [some (wB 0 (wyV y)), some (sdB a b (.slice (some ⟨5, 0, none⟩) l.length l.length) (.slice none 0 0)), wyB y, none, some (qB l)]) ⟨0, a, b, l, y⟩ x := by
  refine ⟨2, 5, _, _, _, by decide, rfl, rfl, (stay_wy y _ 5 rfl (by decide)).1, ?_, ?_, (optWy y rfl).t, ?_, optS rfl hx⟩
  · show _ = unC _ (if (0 : Int) = 0 then qV l else _)
    rw [if_pos rfl, qV_own h]
    rfl
  · show _ = unC _ (if (0 : Int) = 1 then qV l else _)
    rw [if_neg (by decide)]
    rfl
  · show OptAt _ 5 (qO l)
    rw [qO_own h]
    exact optS rfl (ucs_flat l)
theorem fin1 {w : Wd} {x : Blk} (hx : x.cells.all flat = true) (a b : Sd) {l : List Up} (y : Wy) (h : l ≠ []) : VW (layR (memX w x) [0, 1, 2, 3] [some (wB 1 (wyV y)), some (sdB a b (.slice none 0 0) (.slice (some ⟨5, 0, none⟩) l.length l.length)), wyB y, none, some (qB l)]) ⟨1, a, b, l, y⟩ x := by
  refine ⟨2, 5, _, _, _, by decide, rfl, rfl, (stay_wy y _ 5 rfl (by decide)).1, ?_, ?_, (optWy y rfl).t, ?_, optS rfl hx⟩
  · show _ = unC _ (if (1 : Int) = 0 then qV l else _)
    rw [if_neg (by decide)]
    rfl
  · show _ = unC _ (if (1 : Int) = 1 then qV l else _)
    rw [if_pos rfl, qV_own h]
    rfl
  · show OptAt _ 5 (qO l)
    rw [qO_own h]
    exact optS rfl (ucs_flat l)
theorem ownM {t : Int} {a b : Sd} {wv wa wb : Value} (y : Wy) (l : List Up) : ownO [some (wB t wv), some (sdB a b wa wb), wyB y, none, some (qB l)] = true := by
  cases y <;> rfl
theorem okM0 (t : Int) (a b : Sd) (y : Wy) (l : List Up) {wa wb : Value} (ha : okC 5 wa = true) (hb : okC 5 wb = true) : AllOk 5 [some (wB t (wyV y)), some (sdB a b wa wb), wyB y, none, some (qB l)] :=
  .cons (ok_one (ok_w (by decide) (ok_stay (stay_wy y) (by decide) (by decide)))) (.cons (ok_one (ok_sd a b ha hb)) (.cons (ok_wy y) (.cons ok_none (.cons (ok_one (flat_ok (ucs_flat l))) .nil))))
theorem rel5 (t : Int) (a b : Sd) (y : Wy) (l : List Up) (wa wb wa' wb' : Value) (ha : unC (idsOf [0, 1, 2, 3] 5 5) wa = wa') (hb : unC (idsOf [0, 1, 2, 3] 5 5) wb = wb') : All2 (fun x y => x.map (unB (idsOf [0, 1, 2, 3] 5 5)) = y) [some (wB t (wyV y)), some (sdB a b wa wb), wyB y, none, some (qB l)] [some (wB t (wyV y)), some (sdB a b wa' wb'), wyB y, none, some (qB l)] :=
  .cons (by show some (unB _ _) = _; rw [unB_w rfl, wy_ids]) (.cons (by show some (unB _ _) = _; rw [unB_sd, ha, hb]) (.cons (unB_opt (flat_wy y)) (.cons rfl (.cons (unB_opt fun x e => by obtain rfl := Option.some.inj e; exact ucs_flat l) .nil))))
theorem doUpd {n : Nat} {w : Wd} {c : Blk} (hc : c.cells.all flat = true) (hI : Iv n w) {x : Int} (hx : x = 0 ∨ x = 1) (u : Up) (ht : u.t.size ≤ 140737488351232) {K : Value → Heap → Prop} (k : ∀ v g' w', Iv n w' → VW g' w' c → K v g') : WpCall E 22 [.pointer (some ⟨0, 0, none⟩), .int .i64 x, u.v] (memX w c) K := by
  rcases hx with rfl | rfl
  · have hg := hI.ga
    by_cases hf : w.a.shown.fits (u.eff w.a.mark)
    · by_cases h0 : w.t = 0
      · obtain ⟨t, a, b, l, y⟩ := w
        obtain rfl : t = 0 := h0
        dsimp only at hf hg
        have hP : Pr a b y.l l 1 n ∧ ∀ d ∈ y.l, d.give = false := by
          cases hI with
          | zero _ h1 h2 => exact ⟨h1, h2⟩
          | one h => exact absurd h (show ¬ (0 : Int) = 1 by decide)
          | gave0 _ _ h => exact absurd h (show ¬ (0 : Int) = -1 by decide)
          | gave1 _ _ h => exact absurd h (show ¬ (0 : Int) = -1 by decide)
        by_cases h1 : 100 ≤ l.length
        · have hl : l ≠ [] := fun h => by rw [h] at h1; exact absurd h1 (by decide)
          exact WpCall.stay (by rw [mem0 a b y hl]; exact upd22_U0 y a b l h1 (by have := hP.1.ll; omega) u hf ht hg) rfl rfl rfl rfl (k _ _ _ hI (VW.same _ c hc))
        · obtain ⟨e, he⟩ : ∃ e, u.eff a.mark = e := ⟨_, rfl⟩
          have hw := hP.1.upd (m := if u.op = 4 then (u.eff a.mark).n else a.mark) hf (by omega)
          obtain ⟨A, hA⟩ : ∃ A : Sd, (⟨a.shown.ap (u.eff a.mark), a.kept, if u.op = 4 then (u.eff a.mark).n else a.mark⟩ : Sd) = A := ⟨_, rfl⟩
          rw [hA, he] at hw
          have hn : l ++ [e] ≠ [] := by simp
          have hI' : Iv n ⟨0, A, b, l ++ [e], y⟩ := .zero rfl hw hP.2
          have hV := fin0 (w := ⟨0, a, b, l, y⟩) hc A b y hn
          have hk := k (.int .i64 0) _ _ hI' hV
          by_cases hl : l = []
          · subst hl
            have c1 := upd22_N0 y a b u hf ht hg
            rw [hA, he, ← memN] at c1
            exact WpCall.world (bs' := [some (wB 0 (wyV y)), some (sdB A b (.slice (some ⟨4, 0, none⟩) [e].length [e].length) (.slice none 0 0)), wyB y, none, some (qB [e])]) c1 (ownM y _) (show 4 ≤ 5 by decide) (okM0 0 _ _ y _ rfl rfl) rfl rfl rfl (.int .i64 0) [some (wB 0 (wyV y)), some (sdB A b (.slice (some ⟨5, 0, none⟩) [e].length [e].length) (.slice none 0 0)), wyB y, none, some (qB [e])] (rel5 0 _ _ y _ _ _ _ _ rfl rfl) rfl hk
          · have c1 := upd22_O0 y a b l (by omega) u hf ht hg
            rw [hA, he, ← mem0 a b y hl] at c1
            exact WpCall.world (bs' := [some (wB 0 (wyV y)), some (sdB A b (.slice (some ⟨4, 0, none⟩) (l ++ [e]).length (l ++ [e]).length) (.slice none 0 0)), wyB y, none, some (qB (l ++ [e]))]) c1 (ownM y _) (show 4 ≤ 5 by decide) (okM0 0 _ _ y _ rfl rfl) rfl rfl rfl (.int .i64 0) [some (wB 0 (wyV y)), some (sdB A b (.slice (some ⟨5, 0, none⟩) (l ++ [e]).length (l ++ [e]).length) (.slice none 0 0)), wyB y, none, some (qB (l ++ [e]))] (rel5 0 _ _ y _ _ _ _ _ rfl rfl) rfl hk
      · exact WpCall.stay (upd22_T0 w.t w.y w.a w.b w.l _ _ (stay_w0 w) (stay_w1 w) u hf h0 ht hg) rfl rfl rfl rfl (k _ _ w hI (VW.same w c hc))
    · exact WpCall.stay (upd22_F0 w.t w.y w.a w.b w.l _ _ (stay_w0 w) (stay_w1 w) u hf ht hg) rfl rfl rfl rfl (k _ _ w hI (VW.same w c hc))
  · have hg := hI.gb
    by_cases hf : w.b.shown.fits (u.eff w.b.mark)
    · by_cases h0 : w.t = 1
      · obtain ⟨t, a, b, l, y⟩ := w
        obtain rfl : t = 1 := h0
        dsimp only at hf hg
        have hP : Pr b a y.l l 0 n ∧ ∀ d ∈ y.l, d.give = false := by
          cases hI with
          | zero h => exact absurd h (show ¬ (1 : Int) = 0 by decide)
          | one _ h1 h2 => exact ⟨h1, h2⟩
          | gave0 _ _ h => exact absurd h (show ¬ (1 : Int) = -1 by decide)
          | gave1 _ _ h => exact absurd h (show ¬ (1 : Int) = -1 by decide)
        by_cases h1 : 100 ≤ l.length
        · have hl : l ≠ [] := fun h => by rw [h] at h1; exact absurd h1 (by decide)
          exact WpCall.stay (by rw [mem1 a b y hl]; exact upd22_U1 y a b l h1 (by have := hP.1.ll; omega) u hf ht hg) rfl rfl rfl rfl (k _ _ _ hI (VW.same _ c hc))
        · obtain ⟨e, he⟩ : ∃ e, u.eff b.mark = e := ⟨_, rfl⟩
          have hw := hP.1.upd (m := if u.op = 4 then (u.eff b.mark).n else b.mark) hf (by omega)
          obtain ⟨A, hA⟩ : ∃ A : Sd, (⟨b.shown.ap (u.eff b.mark), b.kept, if u.op = 4 then (u.eff b.mark).n else b.mark⟩ : Sd) = A := ⟨_, rfl⟩
          rw [hA, he] at hw
          have hn : l ++ [e] ≠ [] := by simp
          have hI' : Iv n ⟨1, a, A, l ++ [e], y⟩ := .one rfl hw hP.2
          have hV := fin1 (w := ⟨1, a, b, l, y⟩) hc a A y hn
          have hk := k (.int .i64 0) _ _ hI' hV
          by_cases hl : l = []
          · subst hl
            have c1 := upd22_N1 y a b u hf ht hg
            rw [hA, he, ← memN] at c1
            exact WpCall.world (bs' := [some (wB 1 (wyV y)), some (sdB a A (.slice none 0 0) (.slice (some ⟨4, 0, none⟩) [e].length [e].length)), wyB y, none, some (qB [e])]) c1 (ownM y _) (show 4 ≤ 5 by decide) (okM0 1 _ _ y _ rfl rfl) rfl rfl rfl (.int .i64 0) [some (wB 1 (wyV y)), some (sdB a A (.slice none 0 0) (.slice (some ⟨5, 0, none⟩) [e].length [e].length)), wyB y, none, some (qB [e])] (rel5 1 _ _ y _ _ _ _ _ rfl rfl) rfl hk
          · have c1 := upd22_O1 y a b l (by omega) u hf ht hg
            rw [hA, he, ← mem1 a b y hl] at c1
            exact WpCall.world (bs' := [some (wB 1 (wyV y)), some (sdB a A (.slice none 0 0) (.slice (some ⟨4, 0, none⟩) (l ++ [e]).length (l ++ [e]).length)), wyB y, none, some (qB (l ++ [e]))]) c1 (ownM y _) (show 4 ≤ 5 by decide) (okM0 1 _ _ y _ rfl rfl) rfl rfl rfl (.int .i64 0) [some (wB 1 (wyV y)), some (sdB a A (.slice none 0 0) (.slice (some ⟨5, 0, none⟩) (l ++ [e]).length (l ++ [e]).length)), wyB y, none, some (qB (l ++ [e]))] (rel5 1 _ _ y _ _ _ _ _ rfl rfl) rfl hk
      · exact WpCall.stay (upd22_T1 w.t w.y w.a w.b w.l _ _ (stay_w0 w) (stay_w1 w) u hf h0 ht hg) rfl rfl rfl rfl (k _ _ w hI (VW.same w c hc))
    · exact WpCall.stay (upd22_F1 w.t w.y w.a w.b w.l _ _ (stay_w0 w) (stay_w1 w) u hf ht hg) rfl rfl rfl rfl (k _ _ w hI (VW.same w c hc))
open Go.Fw Go.RowKit

theorem own_row {c : List Value} {t : Int} {a b : Sd} {wv : Value} {q : Option Blk} (hq : ∀ b, q = some b → b.own = true) (y : Wy) : ownO (some (wB t wv) :: sendT (sdB a b (.slice none 0 0) (.slice none 0 0)) c q y) = true := own_send rfl rfl hq y
/-- What is behind the rows: a delivery, as it lies, and as it is told. -/
structure Raw (g : Heap) (rl : List Nat) (c : List Value) (d : Dl) : Prop where
  all : All2 (ToldC E (g.less rl) rl 5) c (dlc d)
theorem dl_told {g : Heap} {rl : List Nat} {m : Nat} (L : List Dl) {c : List Value} {d : Dl} (h : All2 (ToldC E (g.less rl) rl m) c (dlc d)) : All2 (ToldC E (g.less rl) rl m) (dlcs L ++ c) (wyC (L ++ [d]) false) := by
  show All2 _ _ (dlcs (L ++ [d]) ++ [])
  rw [dlcs_app, List.append_nil]
  refine (told_flat (dlcs_flat L)).append ?_
  show All2 _ _ (dlcs [d])
  rw [dlcs_cons]
  simpa [dlcs] using h
theorem ice_q {h : Heap} {l : List Up} {c : Nat} (hb : h.get 3 = some (qB l)) : iceC E h 4 (.slice (some ⟨3, 0, none⟩) l.length c) = some (FS 26 l.length 0 (ucs l).toArray) :=
  iceC_row (E := E) (hp := h) (b := 3) (n := l.length) (c := c) (e := 26) (size := 5) (cells := ucs l) 3 (by kernel_rfl) hb (ucs_len l).symm (ucs_flat l)
theorem raw_ice {h : Heap} {rl : List Nat} {m : Nat} (d : Dl) (hl : d.l ≠ []) (hb : h.get 3 = some (qB d.l)) : All2 (ToldC E h rl m) (rawc d) (dlc d) := by
  have e : fU d.l = FS 26 d.l.length 0 (ucs d.l).toArray := by
    unfold fU xU
    rw [if_neg hl]
  unfold dlc
  rw [e]
  exact .cons (told_fl _ rfl) (.cons (.inr ⟨_, ice_q hb, .inl rfl⟩) (.cons (told_fl _ rfl) (.cons (told_fl _ rfl) (.cons (told_fl _ rfl) (.cons (told_fl _ rfl) (.cons (told_fl _ rfl) .nil))))))
/-- What is on the way behind one more delivery. -/
def pushY (y : Wy) (d : Dl) : Wy := .own (y.l ++ [d]) false
def sendV2 : Wy → Value
  | .nil => .slice (some ⟨5, 0, none⟩) 1 1
  | .own l false => .slice (some ⟨5, 0, none⟩) (l.length + 1) (l.length + 1)
  | .own l true => .slice (some ⟨2, 0, none⟩) (l.length + 1) (l.length + 1)
theorem send_v2 (y : Wy) : unC (idsOf [0, 1, 2, 3] 5 (4 + match y with | .own _ true => 0 | _ => 1)) (sendV y) = sendV2 y := by
  cases y with
  | nil => rfl
  | own l z => cases z <;> rfl
/-- The cells of a row that holds a raw delivery stay what they are. -/
theorem raw_ids {rl : List Nat} (h3 : rl.getD 3 0 = 3) {L : List Dl} {d : Dl} : (dlcs L ++ rawc d).map (unC rl) = dlcs L ++ rawc d := by
  rw [List.map_append, (CellsOk.flat (rl := rl) (m := 0) fun v hv => List.all_eq_true.1 (dlcs_flat L) v hv).1.symm]
  congr 1
  show [_, Value.slice (some ⟨rl.getD 3 0, 0, none⟩) _ _, _, _, _, _, _] = _
  rw [h3]
  rfl
theorem flat_ids {rl : List Nat} {l : List Value} (h : l.all flat = true) : l.map (unC rl) = l := (CellsOk.flat (rl := rl) (m := 0) fun v hv => List.all_eq_true.1 h v hv).1.symm
theorem okq {m : Nat} (d : Dl) (hm : 3 < m) : (rawc d).all (okC m) = true := by
  unfold rawc
  simp only [List.all_cons, List.all_nil, Bool.and_true]
  rw [show okC m (.slice (some ⟨3, 0, none⟩) d.l.length d.l.length) = true from decide_eq_true hm]
  rfl
/-- A delivery was sent: the world is found again. c: its cells as they lie; q: what waited. -/
theorem fin_send {w : Wd} {x : Blk} (hx : x.cells.all flat = true) (t : Int) (a b : Sd) (y : Wy) (d : Dl) (c : List Value) (q : Option Blk) {f : FuncId} {args : List Value} {K : Value → Heap → Prop}
    (hc : ∀ rl : List Nat, rl.getD 3 0 = 3 → c.map (unC rl) = c) (hok : ∀ m, 3 < m → c.all (okC m) = true) (hq : q.map (unB [0, 1, 2, 3, 5]) = q ∧ q.map (unB [0, 1, 2, 3]) = q) (hq2 : ∀ b, q = some b → b.own = true) (hq3 : ∀ m, ∀ b, q = some b → b.cells.all (okC m) = true)
    (ht : ∀ (h : Heap) (rl : List Nat), h.get 3 = q → rl.contains 3 = false → All2 (ToldC E (h.less rl) rl 5) c (dlc d))
    (cc : SCall E f args (heapO (memW w)) (.int .i64 0) (heapO (some (wB t (sendV y)) :: sendT (sdB a b (.slice none 0 0) (.slice none 0 0)) c q y))) (ha : args.all (okV 4) = true) (hu : args = args.map (unV [0, 1, 2, 3]))
    (k : ∀ g', VW g' ⟨t, a, b, [], pushY y d⟩ x → K (.int .i64 0) g') : WpCall E f args (memX w x) K := by
  have t0 : ∀ rl, wB t (unC rl (.slice none 0 0)) = wB t (.slice none 0 0) := fun _ => rfl
  have hw0 : w0 ⟨t, a, b, [], pushY y d⟩ = .slice none 0 0 := w0_nil rfl
  have hw1 : w1 ⟨t, a, b, [], pushY y d⟩ = .slice none 0 0 := w1_nil rfl
  have fresh : ∀ (L : List Dl) (g' : Heap) (r : List Value), y.l = L → r = dlcs L ++ c → g'.get 0 = some (wB t (.slice (some ⟨5, 0, none⟩) (L.length + 1) (L.length + 1))) → g'.get 1 = some (sdB a b (.slice none 0 0) (.slice none 0 0)) → g'.get 3 = q → g'.get 4 = some x → g'.get 5 = some ⟨88, true, r⟩ → VW g' ⟨t, a, b, [], pushY y d⟩ x := by
    intro L g' r hL hr h0 h1 h3 h4 h5
    refine ⟨5, 2, _, _, _, by decide, h0, h1, ?_, by rw [hw0]; rfl, by rw [hw1]; rfl, fun bl hb => ?_, show OptAt _ 2 none from optN _ 2, optS h4 hx⟩
    · show _ = Value.slice (some ⟨5, 0, none⟩) (y.l ++ [d]).length (y.l ++ [d]).length
      rw [hL, List.length_append]
      rfl
    · have hb : some (⟨88, true, wyC (y.l ++ [d]) false⟩ : Blk) = some bl := hb
      obtain rfl := Option.some.inj hb
      refine ⟨r, h5, ?_⟩
      rw [hr, hL]
      exact dl_told L (ht g' _ h3 rfl)
  cases y with
  | nil =>
    have e5 : ∀ r : Blk, r = ⟨88, true, c⟩ → r = ⟨88, true, dlcs [] ++ c⟩ := fun r h => h
    refine WpCall.world (bs' := [some (wB t (.slice (some ⟨4, 0, none⟩) 1 1)), some (sdB a b (.slice none 0 0) (.slice none 0 0)), none, q, some ⟨88, true, c⟩]) cc (own_row hq2 .nil) (show 4 ≤ 5 by decide) (.cons (ok_one (ok_w (show 1 < 5 by decide) rfl)) (.cons (ok_one (ok_sd a b rfl rfl)) (.cons ok_none (.cons (hq3 5) (.cons (ok_one (hok 5 (by decide))) .nil))))) ha hu rfl (.int .i64 0) [some (wB t (.slice (some ⟨5, 0, none⟩) 1 1)), some (sdB a b (.slice none 0 0) (.slice none 0 0)), none, q, some ⟨88, true, c⟩] (.cons (congrArg some (unB_w rfl t _)) (.cons rfl (.cons rfl (.cons hq.1 (.cons ?_ .nil))))) rfl (k _ (fresh [] _ c rfl rfl rfl rfl rfl rfl rfl))
    show some (Blk.mk 88 true (c.map _)) = _
    rw [hc _ rfl]
  | own L z =>
    cases z with
    | false =>
      refine WpCall.world (bs' := [some (wB t (.slice (some ⟨4, 0, none⟩) (L.length + 1) (L.length + 1))), some (sdB a b (.slice none 0 0) (.slice none 0 0)), none, q, some ⟨88, true, dlcs L ++ c⟩]) cc (own_row hq2 (.own L false)) (show 4 ≤ 5 by decide) (.cons (ok_one (ok_w (show 1 < 5 by decide) rfl)) (.cons (ok_one (ok_sd a b rfl rfl)) (.cons ok_none (.cons (hq3 5) (.cons (ok_one ?_) .nil))))) ha hu rfl (.int .i64 0) [some (wB t (.slice (some ⟨5, 0, none⟩) (L.length + 1) (L.length + 1))), some (sdB a b (.slice none 0 0) (.slice none 0 0)), none, q, some ⟨88, true, dlcs L ++ c⟩] (.cons (congrArg some (unB_w rfl t _)) (.cons rfl (.cons rfl (.cons hq.1 (.cons ?_ .nil))))) rfl (k _ (fresh L _ _ rfl rfl rfl rfl rfl rfl rfl))
      · show (dlcs L ++ c).all (okC 5) = true
        rw [List.all_append, flat_ok (dlcs_flat L), hok 5 (by decide)]
        rfl
      · show some (Blk.mk 88 true ((dlcs L ++ c).map _)) = _
        rw [List.map_append, flat_ids (dlcs_flat L), hc _ rfl]
    | true =>
      refine WpCall.world (bs' := [some (wB t (.slice (some ⟨2, 0, none⟩) (L.length + 1) (L.length + 1))), some (sdB a b (.slice none 0 0) (.slice none 0 0)), some ⟨88, true, dlcs L ++ c⟩, q]) cc (own_row hq2 (.own L true)) (Nat.le_refl 4) (.cons (ok_one (ok_w (show 1 < 4 by decide) rfl)) (.cons (ok_one (ok_sd a b rfl rfl)) (.cons (ok_one ?_) (.cons (hq3 4) .nil)))) ha hu rfl (.int .i64 0) [some (wB t (.slice (some ⟨2, 0, none⟩) (L.length + 1) (L.length + 1))), some (sdB a b (.slice none 0 0) (.slice none 0 0)), some ⟨88, true, dlcs L ++ c⟩, q] (.cons (congrArg some (unB_w rfl t _)) (.cons rfl (.cons ?_ (.cons hq.2 .nil)))) rfl (k _ ?_)
      · show (dlcs L ++ c).all (okC 4) = true
        rw [List.all_append, flat_ok (dlcs_flat L), hok 4 (by decide)]
        rfl
      · show some (Blk.mk 88 true ((dlcs L ++ c).map _)) = _
        rw [List.map_append, flat_ids (dlcs_flat L), hc _ rfl]
      · refine ⟨2, 7, _, _, _, by decide, rfl, rfl, ?_, by rw [hw0]; rfl, by rw [hw1]; rfl, fun bl hb => ?_, show OptAt _ 7 none from optN _ 7, optS rfl hx⟩
        · show _ = Value.slice (some ⟨2, 0, none⟩) (L ++ [d]).length (L ++ [d]).length
          rw [List.length_append]
          rfl
        · have hb : some (⟨88, true, wyC (L ++ [d]) false⟩ : Blk) = some bl := hb
          obtain rfl := Option.some.inj hb
          exact ⟨_, rfl, dl_told L (ht _ _ rfl rfl)⟩
theorem q_ids (l : List Up) (rl : List Nat) : (some (qB l)).map (unB rl) = some (qB l) := congrArg some (unB_flat (ucs_flat l))
/-- What waits is sent. -/
theorem doDel {n : Nat} {w : Wd} {c : Blk} (hc : c.cells.all flat = true) (hI : Iv n w) (hn : n ≤ 1000) {x : Int} (hx : x = 0 ∨ x = 1) {K : Value → Heap → Prop} (k : ∀ v g' w', Iv (n + 1) w' → VW g' w' c → K v g') : WpCall E 23 [.pointer (some ⟨0, 0, none⟩), .int .i64 x] (memX w c) K := by
  have hM := hI.mono (Nat.le_succ n)
  have hln := hI.ln
  by_cases h0 : w.t = x
  · obtain ⟨t, a, b, l, y⟩ := w
    obtain rfl : t = x := h0
    change y.l.length ≤ n at hln
    by_cases hl : l = []
    · subst hl
      rcases hx with rfl | rfl
      · exact WpCall.stay (by rw [memN]; exact deliver23_0n _ a b _) rfl rfl rfl rfl (k _ _ _ hM (VW.same _ c hc))
      · exact WpCall.stay (by rw [memN]; exact deliver23_1n _ a b _) rfl rfl rfl rfl (k _ _ _ hM (VW.same _ c hc))
    · rcases hx with rfl | rfl
      · have hP : Pr a b y.l l 1 n ∧ ∀ d ∈ y.l, d.give = false := by
          cases hI with
          | zero _ h1 h2 => exact ⟨h1, h2⟩
          | one h => exact absurd h (show ¬ (0 : Int) = 1 by decide)
          | gave0 _ _ h => exact absurd h (show ¬ (0 : Int) = -1 by decide)
          | gave1 _ _ h => exact absurd h (show ¬ (0 : Int) = -1 by decide)
        have c1 := deliver23_0o y a b l hl (by omega)
        rw [← mem0 a b y hl] at c1
        have hI' : Iv (n + 1) ⟨0, a, b, [], pushY y ⟨1, l, false, a.shown⟩⟩ := .zero rfl (hP.1.send false) fun d hd => by
          rcases List.mem_append.1 hd with hd | hd
          · exact hP.2 d hd
          · rw [List.mem_singleton.1 hd]
        exact fin_send hc 0 a b y ⟨1, l, false, a.shown⟩ _ _ (fun rl h3 => raw_ids (L := []) h3) (fun m hm => okq _ hm) ⟨q_ids l _, q_ids l _⟩ (ownQ l) (fun m x e => by obtain rfl := Option.some.inj e; exact flat_ok (ucs_flat l)) (fun h rl h3 hr => raw_ice ⟨1, l, false, a.shown⟩ hl (by show (if rl.contains 3 = true then none else h.get 3) = _; rw [hr]; exact h3)) c1 rfl rfl (fun g' hv => k _ g' _ hI' hv)
      · have hP : Pr b a y.l l 0 n ∧ ∀ d ∈ y.l, d.give = false := by
          cases hI with
          | zero h => exact absurd h (show ¬ (1 : Int) = 0 by decide)
          | one _ h1 h2 => exact ⟨h1, h2⟩
          | gave0 _ _ h => exact absurd h (show ¬ (1 : Int) = -1 by decide)
          | gave1 _ _ h => exact absurd h (show ¬ (1 : Int) = -1 by decide)
        have c1 := deliver23_1o y a b l hl (by omega)
        rw [← mem1 a b y hl] at c1
        have hI' : Iv (n + 1) ⟨1, a, b, [], pushY y ⟨0, l, false, b.shown⟩⟩ := .one rfl (hP.1.send false) fun d hd => by
          rcases List.mem_append.1 hd with hd | hd
          · exact hP.2 d hd
          · rw [List.mem_singleton.1 hd]
        exact fin_send hc 1 a b y ⟨0, l, false, b.shown⟩ _ _ (fun rl h3 => raw_ids (L := []) h3) (fun m hm => okq _ hm) ⟨q_ids l _, q_ids l _⟩ (ownQ l) (fun m x e => by obtain rfl := Option.some.inj e; exact flat_ok (ucs_flat l)) (fun h rl h3 hr => raw_ice ⟨0, l, false, b.shown⟩ hl (by show (if rl.contains 3 = true then none else h.get 3) = _; rw [hr]; exact h3)) c1 rfl rfl (fun g' hv => k _ g' _ hI' hv)
  · rcases hx with rfl | rfl
    · exact WpCall.stay (deliver23_T0 w.t _ h0 _) rfl rfl rfl rfl (k _ _ w hM (VW.same w c hc))
    · exact WpCall.stay (deliver23_T1 w.t _ h0 _) rfl rfl rfl rfl (k _ _ w hM (VW.same w c hc))
theorem nil_ids {n : Int} {g : Bool} {d : Dsp} : (dlc ⟨n, [], g, d⟩).all flat = true := rfl
/-- What waits is sent, and the turn. -/
theorem doGive {n : Nat} {w : Wd} {c : Blk} (hc : c.cells.all flat = true) (hI : Iv n w) (hn : n ≤ 1000) {x : Int} (hx : x = 0 ∨ x = 1) {K : Value → Heap → Prop} (k : ∀ v g' w', Iv (n + 1) w' → VW g' w' c → K v g') : WpCall E 24 [.pointer (some ⟨0, 0, none⟩), .int .i64 x] (memX w c) K := by
  have hM := hI.mono (Nat.le_succ n)
  have hln := hI.ln
  by_cases h0 : w.t = x
  · obtain ⟨t, a, b, l, y⟩ := w
    obtain rfl : t = x := h0
    change y.l.length ≤ n at hln
    rcases hx with rfl | rfl
    · have hP : Pr a b y.l l 1 n ∧ ∀ d ∈ y.l, d.give = false := by
        cases hI with
        | zero _ h1 h2 => exact ⟨h1, h2⟩
        | one h => exact absurd h (show ¬ (0 : Int) = 1 by decide)
        | gave0 _ _ h => exact absurd h (show ¬ (0 : Int) = -1 by decide)
        | gave1 _ _ h => exact absurd h (show ¬ (0 : Int) = -1 by decide)
      have hI' : Iv (n + 1) ⟨-1, a, b, [], pushY y ⟨1, l, true, a.shown⟩⟩ := .gave0 y.l ⟨1, l, true, a.shown⟩ rfl rfl rfl rfl hP.2 (hP.1.send true)
      by_cases hl : l = []
      · subst hl
        have c1 := give24_0n y a b (by omega)
        rw [← memN] at c1
        exact fin_send hc (-1) a b y ⟨1, [], true, a.shown⟩ _ _ (fun rl h3 => flat_ids nil_ids) (fun m hm => flat_ok nil_ids) ⟨rfl, rfl⟩ ownN (fun m x e => by cases e) (fun h rl h3 hr => told_flat nil_ids) c1 rfl rfl (fun g' hv => k _ g' _ hI' hv)
      · have c1 := give24_0o y a b l (by omega)
        rw [← mem0 a b y hl] at c1
        exact fin_send hc (-1) a b y ⟨1, l, true, a.shown⟩ _ _ (fun rl h3 => raw_ids (L := []) h3) (fun m hm => okq _ hm) ⟨q_ids l _, q_ids l _⟩ (ownQ l) (fun m x e => by obtain rfl := Option.some.inj e; exact flat_ok (ucs_flat l)) (fun h rl h3 hr => raw_ice ⟨1, l, true, a.shown⟩ hl (by show (if rl.contains 3 = true then none else h.get 3) = _; rw [hr]; exact h3)) c1 rfl rfl (fun g' hv => k _ g' _ hI' hv)
    · have hP : Pr b a y.l l 0 n ∧ ∀ d ∈ y.l, d.give = false := by
        cases hI with
        | zero h => exact absurd h (show ¬ (1 : Int) = 0 by decide)
        | one _ h1 h2 => exact ⟨h1, h2⟩
        | gave0 _ _ h => exact absurd h (show ¬ (1 : Int) = -1 by decide)
        | gave1 _ _ h => exact absurd h (show ¬ (1 : Int) = -1 by decide)
      have hI' : Iv (n + 1) ⟨-1, a, b, [], pushY y ⟨0, l, true, b.shown⟩⟩ := .gave1 y.l ⟨0, l, true, b.shown⟩ rfl rfl rfl rfl hP.2 (hP.1.send true)
      by_cases hl : l = []
      · subst hl
        have c1 := give24_1n y a b (by omega)
        rw [← memN] at c1
        exact fin_send hc (-1) a b y ⟨0, [], true, b.shown⟩ _ _ (fun rl h3 => flat_ids nil_ids) (fun m hm => flat_ok nil_ids) ⟨rfl, rfl⟩ ownN (fun m x e => by cases e) (fun h rl h3 hr => told_flat nil_ids) c1 rfl rfl (fun g' hv => k _ g' _ hI' hv)
      · have c1 := give24_1o y a b l (by omega)
        rw [← mem1 a b y hl] at c1
        exact fin_send hc (-1) a b y ⟨0, l, true, b.shown⟩ _ _ (fun rl h3 => raw_ids (L := []) h3) (fun m hm => okq _ hm) ⟨q_ids l _, q_ids l _⟩ (ownQ l) (fun m x e => by obtain rfl := Option.some.inj e; exact flat_ok (ucs_flat l)) (fun h rl h3 hr => raw_ice ⟨0, l, true, b.shown⟩ hl (by show (if rl.contains 3 = true then none else h.get 3) = _; rw [hr]; exact h3)) c1 rfl rfl (fun g' hv => k _ g' _ hI' hv)
  · rcases hx with rfl | rfl
    · exact WpCall.stay (give24_T0 w.t _ h0 _) rfl rfl rfl rfl (k _ _ w hM (VW.same w c hc))
    · exact WpCall.stay (give24_T1 w.t _ h0 _) rfl rfl rfl rfl (k _ _ w hM (VW.same w c hc))
open Go.Fw Go.RowKit

theorem row_flat (r : List Dl) : (dlcs r ++ z7).all flat = true := by
  rw [List.all_append, dlcs_flat]
  rfl
theorem own_come {t : Int} {wv wa wb : Value} {a b : Sd} {c : List Value} (l : List Up) : ownO [some (wB t wv), some (sdB a b wa wb), none, qO l, some ⟨88, true, c⟩] = true := by
  unfold qO
  split <;> rfl
/-- A delivery came: the world is found again. -/
theorem fin_come {w : Wd} {x : Blk} (hx : x.cells.all flat = true) (t : Int) (a b : Sd) (r : List Dl) {f : FuncId} {args : List Value} {m : Int} {K : Value → Heap → Prop} (h0 : w0 ⟨t, a, b, w.l, .own r true⟩ = w0 w) (h1 : w1 ⟨t, a, b, w.l, .own r true⟩ = w1 w)
    (cc : SCall E f args (heapO (memW w)) (.tuple #[.int .i64 m, .int .i64 0]) (heapO [some (wB t (.slice (some ⟨4, 0, none⟩) r.length (r.length + 1))), some (sdB a b (w0 w) (w1 w)), none, qO w.l, some ⟨88, true, dlcs r ++ z7⟩])) (ha : args.all (okV 4) = true) (hu : args = args.map (unV [0, 1, 2, 3]))
    (k : ∀ g', VW g' ⟨t, a, b, w.l, .own r true⟩ x → K (.tuple #[.int .i64 m, .int .i64 0]) g') : WpCall E f args (memX w x) K := by
  refine WpCall.world cc (own_come w.l) (show 4 ≤ 5 by decide) (.cons (ok_one (ok_w (show 1 < 5 by decide) rfl)) (.cons (ok_one (ok_sd a b (ok_stay (stay_w0 w) (show 3 < 5 by decide) (by decide)) (ok_stay (stay_w1 w) (show 3 < 5 by decide) (by decide)))) (.cons ok_none (.cons (ok_q _) (.cons (ok_one (flat_ok (row_flat r))) .nil))))) ha hu rfl (.tuple #[.int .i64 m, .int .i64 0]) [some (wB t (.slice (some ⟨5, 0, none⟩) r.length (r.length + 1))), some (sdB a b (w0 w) (w1 w)), none, qO w.l, some ⟨88, true, dlcs r ++ z7⟩] ?_ rfl (k _ ?_)
  · refine .cons (congrArg some (unB_w rfl t _)) (.cons ?_ (.cons rfl (.cons (unB_opt (flat_q _)) (.cons (congrArg some (unB_flat (row_flat r))) .nil))))
    show some (unB (idsOf [0, 1, 2, 3] 5 5) _) = _
    rw [unB_sd, ← (stay_w0 w (idsOf [0, 1, 2, 3] 5 5) 5 rfl (by decide)).1, ← (stay_w1 w (idsOf [0, 1, 2, 3] 5 5) 5 rfl (by decide)).1]
  · refine ⟨5, 3, _, _, _, by decide, rfl, rfl, rfl, ?_, ?_, ?_, optQ _ rfl, optS rfl hx⟩
    · rw [h0]
      exact (stay_w0 w _ 5 rfl (by decide)).1
    · rw [h1]
      exact (stay_w1 w _ 5 rfl (by decide)).1
    · exact OptAt.t (optS rfl (row_flat r))
theorem snoc_cases {d : Dl} {r L : List Dl} {x : Dl} (h : d :: r = L ++ [x]) : (r = [] ∧ L = [] ∧ d = x) ∨ ∃ L', L = d :: L' ∧ r = L' ++ [x] := by
  cases L with
  | nil =>
    obtain ⟨h1, h2⟩ := List.cons.inj h
    exact .inl ⟨h2, rfl, h1⟩
  | cons e L =>
    obtain ⟨h1, h2⟩ := List.cons.inj h
    exact .inr ⟨L, by rw [h1], h2⟩
/-- The next delivery comes. -/
theorem doCome {n : Nat} {w : Wd} {c : Blk} (hc : c.cells.all flat = true) (hI : Iv n w) (hn : n ≤ 800) {x : Int} (hx : x = 0 ∨ x = 1) {K : Value → Heap → Prop} (k : ∀ v1 v2 g' w', Iv n w' → VW g' w' c → K (.tuple #[.int .i64 v1, .int .i64 v2]) g') : WpCall E 25 [.pointer (some ⟨0, 0, none⟩), .int .i64 x] (memX w c) K := by
  have hln := hI.ln
  obtain ⟨t, a, b, l, y⟩ := w
  change y.l.length ≤ n at hln
  have s0 := stay_w0 ⟨t, a, b, l, y⟩
  have s1 := stay_w1 ⟨t, a, b, l, y⟩
  cases y with
  | nil =>
    rcases hx with rfl | rfl
    · exact WpCall.stay (come25_0n t a b _ _ s0 s1 l) rfl rfl rfl rfl (k _ _ _ _ hI (VW.same _ c hc))
    · exact WpCall.stay (come25_1n t a b _ _ s0 s1 l) rfl rfl rfl rfl (k _ _ _ _ hI (VW.same _ c hc))
  | own L z =>
    change L.length ≤ n at hln
    -- who sends, who receives
    have hP : (Pr a b L l 1 n ∧ (t = 0 ∧ (∀ d ∈ L, d.give = false) ∨ t = -1 ∧ l = [] ∧ ∃ I f, L = I ++ [f] ∧ f.give = true ∧ ∀ d ∈ I, d.give = false)) ∨ (Pr b a L l 0 n ∧ (t = 1 ∧ (∀ d ∈ L, d.give = false) ∨ t = -1 ∧ l = [] ∧ ∃ I f, L = I ++ [f] ∧ f.give = true ∧ ∀ d ∈ I, d.give = false)) := by
      cases hI with
      | zero h1 h2 h3 => exact .inl ⟨h2, .inl ⟨h1, h3⟩⟩
      | one h1 h2 h3 => exact .inr ⟨h2, .inl ⟨h1, h3⟩⟩
      | gave0 I f h1 h2 h3 h4 h5 h6 =>
        obtain rfl : l = [] := h2
        exact .inl ⟨h6, .inr ⟨h1, rfl, I, f, h3, h4, h5⟩⟩
      | gave1 I f h1 h2 h3 h4 h5 h6 =>
        obtain rfl : l = [] := h2
        exact .inr ⟨h6, .inr ⟨h1, rfl, I, f, h3, h4, h5⟩⟩
    have stay0 : (∀ i (h : i < L.length), ¬ L[i].dst = 0) → WpCall E 25 [.pointer (some ⟨0, 0, none⟩), .int .i64 0] (memX ⟨t, a, b, l, .own L z⟩ c) K := fun hd =>
      WpCall.stay (come25_0o t a b _ _ s0 s1 l L z hd (by omega)) rfl rfl rfl rfl (k _ _ _ _ hI (VW.same _ c hc))
    have stay1 : (∀ i (h : i < L.length), ¬ L[i].dst = 1) → WpCall E 25 [.pointer (some ⟨0, 0, none⟩), .int .i64 1] (memX ⟨t, a, b, l, .own L z⟩ c) K := fun hd =>
      WpCall.stay (come25_1o t a b _ _ s0 s1 l L z hd (by omega)) rfl rfl rfl rfl (k _ _ _ _ hI (VW.same _ c hc))
    rcases hP with ⟨hp, ht⟩ | ⟨hp, ht⟩
    · have dst : ∀ i (h : i < L.length), L[i].dst = 1 := fun i h => hp.ds _ (List.getElem_mem h)
      rcases hx with rfl | rfl
      · exact stay0 fun i h => by rw [dst i h]; decide
      · cases L with
        | nil => exact stay1 fun i h => absurd h (Nat.not_lt_zero _)
        | cons d r =>
          have c1 := come25_1y t a b _ _ s0 s1 l d r z (dst 0 (Nat.succ_pos _)) (by simp only [List.length_cons] at hln; omega) (by have := hp.le d (List.mem_cons_self ..); omega) hp.runs
          have hp' := hp.come
          rcases ht with ⟨rfl, hg⟩ | ⟨rfl, rfl, I, f, hL, hf, hg⟩
          · rw [if_neg (by rw [hg d (List.mem_cons_self ..)]; decide)] at c1
            exact fin_come (w := ⟨0, a, b, l, .own (d :: r) z⟩) hc 0 _ _ r rfl rfl c1 rfl rfl fun g' hv => k _ _ g' _ (.zero (w := ⟨0, _, _, l, .own r true⟩) rfl hp' fun e he => hg e (List.mem_cons_of_mem _ he)) hv
          · rcases snoc_cases hL with ⟨rfl, rfl, rfl⟩ | ⟨L', rfl, rfl⟩
            · rw [if_pos hf] at c1
              exact fin_come (w := ⟨-1, a, b, [], .own [d] z⟩) hc 1 _ _ [] (by rw [w0_nil rfl, w0_nil rfl]) (by rw [w1_nil rfl, w1_nil rfl]) c1 rfl rfl fun g' hv => k _ _ g' _ (.one rfl hp'.turn fun e he => by cases he) hv
            · rw [if_neg (by rw [hg d (List.mem_cons_self ..)]; decide)] at c1
              exact fin_come (w := ⟨-1, a, b, [], .own (d :: (L' ++ [f])) z⟩) hc (-1) _ _ (L' ++ [f]) rfl rfl c1 rfl rfl fun g' hv => k _ _ g' _ (.gave0 L' f rfl rfl rfl hf (fun e he => hg e (List.mem_cons_of_mem _ he)) hp') hv
    · have dst : ∀ i (h : i < L.length), L[i].dst = 0 := fun i h => hp.ds _ (List.getElem_mem h)
      rcases hx with rfl | rfl
      · cases L with
        | nil => exact stay0 fun i h => absurd h (Nat.not_lt_zero _)
        | cons d r =>
          have c1 := come25_0y t a b _ _ s0 s1 l d r z (dst 0 (Nat.succ_pos _)) (by simp only [List.length_cons] at hln; omega) (by have := hp.le d (List.mem_cons_self ..); omega) hp.runs
          have hp' := hp.come
          rcases ht with ⟨rfl, hg⟩ | ⟨rfl, rfl, I, f, hL, hf, hg⟩
          · rw [if_neg (by rw [hg d (List.mem_cons_self ..)]; decide)] at c1
            exact fin_come (w := ⟨1, a, b, l, .own (d :: r) z⟩) hc 1 _ _ r rfl rfl c1 rfl rfl fun g' hv => k _ _ g' _ (.one (w := ⟨1, _, _, l, .own r true⟩) rfl hp' fun e he => hg e (List.mem_cons_of_mem _ he)) hv
          · rcases snoc_cases hL with ⟨rfl, rfl, rfl⟩ | ⟨L', rfl, rfl⟩
            · rw [if_pos hf] at c1
              exact fin_come (w := ⟨-1, a, b, [], .own [d] z⟩) hc 0 _ _ [] (by rw [w0_nil rfl, w0_nil rfl]) (by rw [w1_nil rfl, w1_nil rfl]) c1 rfl rfl fun g' hv => k _ _ g' _ (.zero rfl hp'.turn fun e he => by cases he) hv
            · rw [if_neg (by rw [hg d (List.mem_cons_self ..)]; decide)] at c1
              exact fin_come (w := ⟨-1, a, b, [], .own (d :: (L' ++ [f])) z⟩) hc (-1) _ _ (L' ++ [f]) rfl rfl c1 rfl rfl fun g' hv => k _ _ g' _ (.gave1 L' f rfl rfl rfl hf (fun e he => hg e (List.mem_cons_of_mem _ he)) hp') hv
      · exact stay1 fun i h => by rw [dst i h]; decide
theorem Iv.kept {n : Nat} {w : Wd} (h : Iv n w) (k : Int) : Pr ⟨w.a.kept, w.a.kept, 0⟩ ⟨w.b.kept, w.b.kept, 0⟩ [] [] k n ∧ Pr ⟨w.b.kept, w.b.kept, 0⟩ ⟨w.a.kept, w.a.kept, 0⟩ [] [] k n := by
  cases h with
  | zero _ h => exact ⟨h.kept, (h.kept (k' := k)).turn⟩
  | one _ h => exact ⟨(h.kept (k' := k)).turn, h.kept⟩
  | gave0 _ _ _ _ _ _ _ h => exact ⟨h.kept, (h.kept (k' := k)).turn⟩
  | gave1 _ _ _ _ _ _ _ h => exact ⟨(h.kept (k' := k)).turn, h.kept⟩
/-- What is not the same is dropped. -/
theorem doBreak {n : Nat} {w : Wd} {c : Blk} (hc : c.cells.all flat = true) (hI : Iv n w) {x : Int} (hx : x = 0 ∨ x = 1) {K : Value → Heap → Prop} (k : ∀ v g' w', Iv n w' → w'.l = [] → w'.y.l = [] → VW g' w' c → K v g') : WpCall E 26 [.pointer (some ⟨0, 0, none⟩), .int .i64 x] (memX w c) K := by
  obtain ⟨t, a, b, l, y⟩ := w
  have fin : ∀ t' : Int, VW (layR (memX ⟨t, a, b, l, y⟩ c) [0, 1, 2, 3] [some (wB t' (.slice none 0 0)), some (sdB ⟨a.kept, a.kept, 0⟩ ⟨b.kept, b.kept, 0⟩ (.slice none 0 0) (.slice none 0 0)), none, none]) ⟨t', ⟨a.kept, a.kept, 0⟩, ⟨b.kept, b.kept, 0⟩, [], .nil⟩ c := fun t' =>
    ⟨2, 3, _, _, _, by decide, rfl, rfl, rfl, by rw [w0_nil rfl]; rfl, by rw [w1_nil rfl]; rfl, (optN _ 2).t, show OptAt _ 3 none from optN _ 3, optS rfl hc⟩
  rcases hx with rfl | rfl
  · exact WpCall.world (bs' := [some (wB 0 (.slice none 0 0)), some (sdB ⟨a.kept, a.kept, 0⟩ ⟨b.kept, b.kept, 0⟩ (.slice none 0 0) (.slice none 0 0)), none, none]) (break26_0 t y a b l _ _) rfl (Nat.le_refl 4) (.cons (ok_one (ok_w (show 1 < 4 by decide) rfl)) (.cons (ok_one (ok_sd _ _ rfl rfl)) (.cons ok_none (.cons ok_none .nil)))) rfl rfl rfl _ [some (wB 0 (.slice none 0 0)), some (sdB ⟨a.kept, a.kept, 0⟩ ⟨b.kept, b.kept, 0⟩ (.slice none 0 0) (.slice none 0 0)), none, none] (.cons (congrArg some (unB_w rfl 0 _)) (.cons rfl (.cons rfl (.cons rfl .nil)))) rfl (k _ _ ⟨0, ⟨a.kept, a.kept, 0⟩, ⟨b.kept, b.kept, 0⟩, [], .nil⟩ (.zero rfl (hI.kept 1).1 fun d hd => by cases hd) rfl rfl (fin 0))
  · exact WpCall.world (bs' := [some (wB 1 (.slice none 0 0)), some (sdB ⟨a.kept, a.kept, 0⟩ ⟨b.kept, b.kept, 0⟩ (.slice none 0 0) (.slice none 0 0)), none, none]) (break26_1 t y a b l _ _) rfl (Nat.le_refl 4) (.cons (ok_one (ok_w (show 1 < 4 by decide) rfl)) (.cons (ok_one (ok_sd _ _ rfl rfl)) (.cons ok_none (.cons ok_none .nil)))) rfl rfl rfl _ [some (wB 1 (.slice none 0 0)), some (sdB ⟨a.kept, a.kept, 0⟩ ⟨b.kept, b.kept, 0⟩ (.slice none 0 0) (.slice none 0 0)), none, none] (.cons (congrArg some (unB_w rfl 1 _)) (.cons rfl (.cons rfl (.cons rfl .nil)))) rfl (k _ _ ⟨1, ⟨a.kept, a.kept, 0⟩, ⟨b.kept, b.kept, 0⟩, [], .nil⟩ (.one rfl (hI.kept 0).2 fun d hd => by cases hd) rfl rfl (fin 1))
end Go.Proofs.Ytlejgfeoffhjoaa.D
