/- The specification's station: what waits is sent. -/
import Derived.Test.YtgefohjickhldaaFwLem
import Derived.Test.YtgefohjickhldaaFwMat
import Derived.Test.YtgefohjickhldaaT10u
namespace Go.Proofs.Ytgefohjickhldaa.D
open Go.Fw Go.RowKit

theorem viewRI {n : Nat} {sl : Slots} {l : List (Nat × Value)} {h : Heap} {s : St} {cells : List Value} {vq vo : Value} (h0 : h.get 0 = some ⟨92, true, cells⟩) (hc : cells = rC s vq vo) (rq' : RowR h s.queue vq) (ro' : RowR h s.out vo) (hs : SlotsI E h [0] 1 sl l) : View 1 E n sl h (layj l) (heapOf [rB s]) :=
  View.ofI [0] [rB s] l (by decide) rfl ⟨⟨_, h0, objR hc rq' ro'⟩, trivial⟩ hs
theorem f49 : E.funcs 49 = some Try.f49 := by kernel_rfl
theorem behind49 (s : St) (m : Nat) (hm : m ≤ 10000) (hf : Flo s m) : Lent E 49 [.pointer (some ⟨0, 0, none⟩), lv s.ans] [rB s] (lv s.flo.ans) [rB s.flo] := by
  obtain ⟨T, hT⟩ : ∃ T, s.flo = T := ⟨_, rfl⟩
  rw [hT]
  unfold St.flo at hT
  refine Lent.of f49 rfl (of_decide_eq_true (by kernel_rfl)) rfl rfl (Nat.le_refl _) rfl (rB_ok _) rfl ?_
  show Wp 1 E _ _ _ (heapOf [rB s]) (endK E _ (LentEnd E 1 _ _))
  unfold rB rC sv lv
  refine Wp.seq (Wp.text (kp 4 vN (WpOps.nil (thenK_at (Wp.seq (Wp.block ?_))))))
  refine Wp.loop (G := St) (fun g => layj [(0, .pointer (some ⟨0, 0, none⟩)), (1, lv g.ans)]) (fun g => heapOf [rB g]) (fun g => g.queue.length) (fun g => Flo g m ∧ St.floN g.queue.length g = T) s ?_ ⟨hf, hT⟩ ?_
  · exact viewR (by kernel_rfl) rfl ⟨⟨by kernel_rfl, rfl⟩, ⟨by kernel_rfl, rfl⟩, trivial⟩
  clear hf hT
  clear s
  rintro s ⟨hf, hT⟩
  have f1 := hf.sent
  have f2 := hf.wanted
  have f3 := hf.win
  have f4 := hf.out
  have f5 := hf.queue
  have f6 := hf.ans
  by_cases hmay : s.may
  · obtain ⟨h1, h2, h3⟩ := hmay
    obtain ⟨d, q, hq⟩ := List.exists_cons_of_ne_nil h3
    have hnx := hf.next hq ⟨h1, h2, h3⟩
    have hq1 := flo1_queue hq
    rw [hq] at f5 f6 hT
    have hT' : St.floN q.length s.flo1 = T := by rw [← hT]; exact (if_pos ⟨h1, h2, h3⟩).symm
    have d1 : ((s.state : Int) == 2) = true := by rw [h1]; rfl
    have d2 : decide ((s.out.length : Int) < s.win) = true := decide_eq_true (by omega)
    have hl0 : s.queue.length ≤ 20 := hf.queue
    have hp0 : 0 < s.queue.length := List.length_pos_iff.2 h3
    have d3 : decide ((s.queue.length : Int) > 0) = true := decide_eq_true (by omega)
    have g1 : (0 : Int) ≤ 0 ∧ (0 : Int) < (s.queue.length : Int) := by omega
    have g2 : (0 : Int) ≤ 1 ∧ (1 : Int) ≤ (s.queue.length : Int) := by omega
    have g3 : (ss s.queue)[0]? = some (.string d) := by rw [hq]; rfl
    have hcut : ((ss s.queue).drop ((((1 : Nat) : Int)).toNat * 1)).take ((s.queue.length - (((1 : Nat) : Int)).toNat) * 1) = ss q := by rw [ss_cut, hq]; rfl
    have hql : s.queue.length = q.length + 1 := by rw [hq]; rfl
    obtain ⟨s1, hs1⟩ : ∃ s1, s1 = ({ s with queue := q } : St) := ⟨_, rfl⟩
    unfold rB rC sv lv
    refine Wp.seq (Wp.seq (Wp.region (by kernel_rfl) (kp 6 (vP 0 0) (kp 7 (vP 0 0) (kp 8 (vP 0 5) (kp 9 (vI (St.state s)) (kp 10 vT (kp 11 vT (kp 12 (vP 0 0) (kp 13 (vP 0 0) (kp 14 (vP 0 13) (kp 15 (sv (St.out s)) (kp 16 (vI (List.length (St.out s))) (kp 17 (vP 0 0) (kp 18 (vP 0 0) (kp 19 (vP 0 2) (kp 20 (vI (St.win s)) (kp 21 vT (kp 22 vT (kp 23 vT (kp 24 (vP 0 0) (kp 25 (vP 0 0) (kp 26 (vP 0 12) (kp 27 (sv (St.queue s)) (kp 28 (vI (List.length (St.queue s))) (kp 29 vT (kp 30 vT (WpOps.nil (thenK_at (on' (Wp.skip (thenK_at (Wp.block (Wp.seq (Wp.text (kp 31 (vP 0 0) (kp 32 (vP 0 0) (kp 33 (vP 0 12) (kp 34 (sv (St.queue s)) (kp 35 (.iface 9 (Value.iface 0 (Value.agg (List.toArray (ss (St.queue s)))))) (kp 36 (.string d) (kp 5 (.string d) (WpOps.nil (thenK_at (Wp.seq ?_)))) (hop := fun _ => o_loadI1 (0) g3)) (hop := fun _ => o_indexI (e := 9) (size := 1) (a := 0) g1))))))))))))))) (hop := fun _ => by_fact d3))))))))) (hop := fun _ => by_fact d2)))))))))))) (hop := fun _ => by_fact d1))))))))
    refine Wp.mergeH [(0, .pointer (some ⟨0, 0, none⟩)), (1, lv s.ans), (5, .string d)] (heapOf [rB s1]) ?_ ?_
    · by_cases he : q = []
      · subst he
        have z1 : s.queue.length - 1 = 0 := by rw [hql]; rfl
        refine Wp.text (kp 37 (vP 0 0) (md 38 (.slice (some ⟨1, 0, none⟩) 0 0) (Blk.mk 9 true []) (kp 39 (vP 0 0) (kp 40 (vP 0 0) (kp 41 (vP 0 12) (kp 42 (sv (St.queue s)) (kp 43 (.iface 9 (Value.iface (List.length (St.queue s) - 1) (Value.iface (if 3 = 2 then 2 else (if 3 = 3 then 3 else 0)) (Value.agg (List.toArray (List.take ((List.length (St.queue s) - 1) * 1) (List.drop 1 (Array.toList (List.toArray (ss (St.queue s))))))))))) ?_ (hop := fun _ => o_cutF_lo (size := 1) g2))))))))
        rw [z1]
        refine kp 44 (.slice (some ⟨1, 0, none⟩) 0 0) (kp 45 (vP 0 0) (kp 46 (vP 0 12) (ld (.tuple #[]) (0) (Blk.mk 92 true [vT, Value.bool (St.first s), vI (St.win s), vI (St.wait s), vI (St.tries s), vI (St.state s), vI (St.gen s), vI (St.sent s), vI (St.acked s), vI (St.wanted s), Value.bool (St.rej s), Value.bool (St.ren s), Value.slice (some ⟨1, 0, none⟩) 0 0, Value.iface 9 (Value.iface (List.length (St.out s)) (Value.iface 3 (Value.agg (List.toArray (ss (St.out s)))))), vI (St.left s), vI (St.tried s)]) (WpOps.nil ?_))))
        exact ⟨rfl, viewRI (s := s1) (cells := rC s1 (.slice (some ⟨1, 0, none⟩) 0 0) (sv s1.out)) (by subst hs1; kernel_rfl) rfl (.own 1 0 0 [] rfl (by kernel_rfl) (by rw [hs1]; rfl) (by rw [hs1]; rfl) (by decide)) (.same rfl) ⟨.w (.un (by kernel_rfl) rfl), .w (.un (by kernel_rfl) rfl), .w (.un (by kernel_rfl) rfl), trivial⟩⟩
      · have hp := List.length_pos_iff.2 he
        have hl : s.queue.length - 1 = q.length := by omega
        have q1 : ¬ 0 + (s.queue.length - 1) ≤ 0 := by omega
        have q2 : 1 ≤ 16 ∧ (0 + (s.queue.length - 1)) * 16 ≤ 140737488355328 ∧ 1 = 1 ∧ 0 + (s.queue.length - 1) ≤ 9223372036854775807 := by omega
        refine Wp.text (kp 37 (vP 0 0) (md 38 (.slice (some ⟨1, 0, none⟩) 0 0) (Blk.mk 9 true []) (kp 39 (vP 0 0) (kp 40 (vP 0 0) (kp 41 (vP 0 12) (kp 42 (sv (St.queue s)) (kp 43 (.iface 9 (Value.iface (List.length (St.queue s) - 1) (Value.iface (if 3 = 2 then 2 else (if 3 = 3 then 3 else 0)) (Value.agg (List.toArray (List.take ((List.length (St.queue s) - 1) * 1) (List.drop 1 (Array.toList (List.toArray (ss (St.queue s))))))))))) ?_ (hop := fun _ => o_cutF_lo (size := 1) g2))))))))
        refine ra 44 (.slice (some ⟨2, 0, none⟩) (0 + (List.length (St.queue s) - 1)) (0 + (List.length (St.queue s) - 1))) (1) (Blk.mk 9 true ([] ++ Array.toList (List.toArray (List.take ((List.length (St.queue s) - 1) * 1) (List.drop 1 (Array.toList (List.toArray (ss (St.queue s))))))))) ?_ (hop := fun _ => o_append (e := 9) (1) (0) (0) _ (0) q1 q2)
        refine kp 45 (vP 0 0) (kp 46 (vP 0 12) (ld (.tuple #[]) (0) (Blk.mk 92 true [vT, Value.bool (St.first s), vI (St.win s), vI (St.wait s), vI (St.tries s), vI (St.state s), vI (St.gen s), vI (St.sent s), vI (St.acked s), vI (St.wanted s), Value.bool (St.rej s), Value.bool (St.ren s), Value.slice (some ⟨2, 0, none⟩) (0 + (List.length (St.queue s) - 1)) (0 + (List.length (St.queue s) - 1)), Value.iface 9 (Value.iface (List.length (St.out s)) (Value.iface 3 (Value.agg (List.toArray (ss (St.out s)))))), vI (St.left s), vI (St.tried s)]) (WpOps.nil ?_)))
        exact ⟨rfl, viewRI (s := s1) (cells := rC s1 (.slice (some ⟨2, 0, none⟩) (0 + (s.queue.length - 1)) (0 + (s.queue.length - 1))) (sv s1.out)) (by subst hs1; kernel_rfl) rfl (.own 2 (0 + (s.queue.length - 1)) (0 + (s.queue.length - 1)) (((ss s.queue).drop ((((1 : Nat) : Int)).toNat * 1)).take ((s.queue.length - (((1 : Nat) : Int)).toNat) * 1)) rfl (by kernel_rfl) (by rw [hs1]; show 0 + (s.queue.length - 1) = q.length; omega) (by rw [hcut, hs1]) (by decide)) (.same rfl) ⟨.w (.un (by kernel_rfl) rfl), .w (.un (by kernel_rfl) rfl), .w (.un (by kernel_rfl) rfl), trivial⟩⟩
    · have ea : s1.ans = s.ans := by rw [hs1]
      have c1 := put73 s1 3 s1.sent s1.wanted d (by rw [ea]; omega)
      rw [ea] at c1
      have eo : s1.out = s.out := by rw [hs1]
      have eo1 : s1.out.length ≤ 7 := by rw [eo]; omega
      have es : s1.sent ≤ 7 := by rw [hs1]; exact f1
      have el : s1.left = s.left := by rw [hs1]
      have hflo : s.flo1 = (if s1.left = 0 then ({ s1.snd 3 s1.sent s1.wanted d with out := s1.out ++ [d], sent := (s1.sent + 1) % 8 } : St).sta else { s1.snd 3 s1.sent s1.wanted d with out := s1.out ++ [d], sent := (s1.sent + 1) % 8 }) := by
        subst hs1
        unfold St.flo1
        rw [hq]
        rfl
      clear hs1
      obtain ⟨s3, hs3⟩ : ∃ s3, s3 = ({ s1.snd 3 s1.sent s1.wanted d with out := s1.out ++ [d] } : St) := ⟨_, rfl⟩
      have e3 : ({ s1.snd 3 s1.sent s1.wanted d with out := s1.out ++ [d], sent := (s1.sent + 1) % 8 } : St) = { s3 with sent := (s1.sent + 1) % 8 } := by rw [hs3]
      rw [e3] at hflo
      unfold rB rC sv lv
      refine Wp.seq (Wp.region (by kernel_rfl) (kp 47 (vP 0 0) (kp 48 (lv (St.ans s)) (kp 49 (vP 0 0) (kp 50 (vP 0 0) (kp 51 (vP 0 7) (kp 52 (vI (St.sent s1)) (kp 53 (vP 0 0) (kp 54 (vP 0 0) (kp 55 (vP 0 9) (kp 56 (vI (St.wanted s1)) (kp 57 (.string d) (cl 58 73 [vP 0 0, Value.iface 61 (Value.iface (List.length (St.ans s)) (Value.iface 3 (Value.agg (List.toArray (evl (St.ans s)))))), vI 3, vI (St.sent s1), vI (St.wanted s1), Value.string d] (WpCall.rf c1 (by kernel_rfl) rfl (by kernel_rfl) (by kernel_rfl) (kp 1 (lv (St.ans (St.snd 3 (St.sent s1) (St.wanted s1) d s1))) (WpOps.nil (thenK_at (Wp.seq ?_))))))))))))))))))
      refine Wp.mergeH [(0, .pointer (some ⟨0, 0, none⟩)), (1, lv s3.ans)] (heapOf [rB s3]) ?_ ?_
      · by_cases he : s1.out = []
        · unfold rB rC sv
          rw [he]
          refine Wp.text (kp 59 (vP 0 0) (cg 60 (.slice (some ⟨1, 0, none⟩) 0 0) (Heap.alloc (Heap.set (heapOf [Blk.mk 92 true [vT, Value.bool (St.first s1), vI (St.win s1), vI (St.wait s1), vI (St.tries s1), vI (St.state s1), vI (St.gen s1), vI (St.sent s1), vI (St.acked s1), vI (St.wanted s1), Value.bool (St.rej s1), Value.bool (St.ren s1), FS 9 (List.length (St.queue s1)) 3 (List.toArray (ss (St.queue s1))), FS 9 0 3 #[], vI (St.left s1), vI (St.tried s1)]]) 0 (some (Blk.mk 92 true [vT, Value.bool (St.first s1), vI (St.win s1), vI (St.wait s1), vI (St.tries s1), vI (St.state s1), vI (St.gen s1), vI (St.sent s1), vI (St.acked s1), vI (St.wanted s1), Value.bool (St.rej s1), Value.bool (St.ren s1), Value.iface 9 (Value.iface (List.length (St.queue s1)) (Value.iface 3 (Value.agg (List.toArray (ss (St.queue s1)))))), Value.iface 9 (Value.iface 0 (Value.iface 3 (Value.agg #[]))), vI (St.left s1), vI (St.tried s1)]))) (Blk.mk 9 true [])) (kp 61 (vP 0 0) (kp 62 (vP 0 0) (kp 63 (vP 0 13) (kp 64 (.iface 9 (Value.iface 0 (Value.iface 3 (Value.agg #[])))) (kp 65 (.slice (some ⟨1, 0, none⟩) 0 0) (kp 66 (.string d) (md 67 (.slice (some ⟨2, 0, none⟩) 1 1) (Blk.mk 9 true [Value.string d]) ?_)))))))))
          refine ra 68 (.slice (some ⟨3, 0, none⟩) 1 1) (1) (Blk.mk 9 true [Value.string d]) (kp 69 (vP 0 0) (kp 70 (vP 0 13) (ld (.tuple #[]) (0) (Blk.mk 92 true [vT, Value.bool (St.first s1), vI (St.win s1), vI (St.wait s1), vI (St.tries s1), vI (St.state s1), vI (St.gen s1), vI (St.sent s1), vI (St.acked s1), vI (St.wanted s1), Value.bool (St.rej s1), Value.bool (St.ren s1), Value.iface 9 (Value.iface (List.length (St.queue s1)) (Value.iface 3 (Value.agg (List.toArray (ss (St.queue s1)))))), Value.slice (some ⟨3, 0, none⟩) 1 1, vI (St.left s1), vI (St.tried s1)]) (WpOps.nil ?_))))
          exact ⟨rfl, viewRI (s := s3) (cells := rC s3 (sv s3.queue) (.slice (some ⟨3, 0, none⟩) 1 1)) (by subst hs3; kernel_rfl) rfl (.same rfl) (.own 3 1 1 [.string d] rfl (by kernel_rfl) (by rw [hs3]; simp [he]) (by rw [hs3]; simp [ss, he]) (by decide)) ⟨.w (.un (by kernel_rfl) rfl), .w (.un (by subst hs3; kernel_rfl) rfl), trivial⟩⟩
        · have hp := List.length_pos_iff.2 he
          have q1 : ¬ 0 + s1.out.length ≤ 0 := by omega
          have q2 : 1 ≤ 16 ∧ (0 + s1.out.length) * 16 ≤ 140737488355328 ∧ 1 = 1 ∧ 0 + s1.out.length ≤ 9223372036854775807 := by omega
          have q3 : ¬ 0 + s1.out.length + 1 ≤ 0 + s1.out.length := by omega
          have q4 : 1 ≤ 16 ∧ (0 + s1.out.length + 1) * 16 ≤ 140737488355328 ∧ 1 = 1 ∧ 0 + s1.out.length + 1 ≤ 9223372036854775807 := by omega
          have q5 : cellsAt (ss s1.out) 0 ((0 + s1.out.length) * 1) = some (ss s1.out) := cellsAt_all _ (by rw [ss_len]; omega)
          refine Wp.text (kp 59 (vP 0 0) (md 60 (.slice (some ⟨1, 0, none⟩) 0 0) (Blk.mk 9 true []) (kp 61 (vP 0 0) (kp 62 (vP 0 0) (kp 63 (vP 0 13) (kp 64 (sv (St.out s1)) ?_))))))
          refine ra 65 (.slice (some ⟨2, 0, none⟩) (0 + List.length (St.out s1)) (0 + List.length (St.out s1))) (1) (Blk.mk 9 true ([] ++ Array.toList (List.toArray (ss (St.out s1))))) ?_ (hop := fun _ => o_append (e := 9) (1) (0) (0) _ (0) q1 q2)
          refine kp 66 (.string d) (md 67 (.slice (some ⟨3, 0, none⟩) 1 1) (Blk.mk 9 true [Value.string d]) ?_)
          refine ra 68 (.slice (some ⟨4, 0, none⟩) (0 + List.length (St.out s1) + 1) (0 + List.length (St.out s1) + 1)) (2) (Blk.mk 9 true (ss (St.out s1) ++ [Value.string d])) ?_ (hop := fun _ => o_append (e := 9) (2) (0) (0 + List.length (St.out s1)) _ (0 + List.length (St.out s1)) q3 q4 q5)
          refine kp 69 (vP 0 0) (kp 70 (vP 0 13) (ld (.tuple #[]) (0) (Blk.mk 92 true [vT, Value.bool (St.first s1), vI (St.win s1), vI (St.wait s1), vI (St.tries s1), vI (St.state s1), vI (St.gen s1), vI (St.sent s1), vI (St.acked s1), vI (St.wanted s1), Value.bool (St.rej s1), Value.bool (St.ren s1), Value.iface 9 (Value.iface (List.length (St.queue s1)) (Value.iface 3 (Value.agg (List.toArray (ss (St.queue s1)))))), Value.slice (some ⟨4, 0, none⟩) (0 + List.length (St.out s1) + 1) (0 + List.length (St.out s1) + 1), vI (St.left s1), vI (St.tried s1)]) (WpOps.nil ?_)))
          exact ⟨rfl, viewRI (s := s3) (cells := rC s3 (sv s3.queue) (.slice (some ⟨4, 0, none⟩) (0 + s1.out.length + 1) (0 + s1.out.length + 1))) (by subst hs3; kernel_rfl) rfl (.same rfl) (.own 4 (0 + s1.out.length + 1) (0 + s1.out.length + 1) (ss s1.out ++ [.string d]) rfl (by kernel_rfl) (by rw [hs3]; simp) (by rw [hs3]; simp [ss]) (by decide)) ⟨.w (.un (by kernel_rfl) rfl), .w (.un (by subst hs3; kernel_rfl) rfl), trivial⟩⟩
      · have es3 : s3.sent = s1.sent := by rw [hs3]; rfl
        have el3 : s3.left = s1.left := by rw [hs3]; rfl
        rw [← es3] at hflo es
        rw [← el3] at hflo
        clear hs3 e3 c1
        have w1 : (IntKind.i64.wrap ((s3.sent : Int) + 1)).tmod 8 = ((s3.sent + 1) % 8 : Nat) := by
          rw [wr _ (by omega) (by omega), Int.tmod_eq_emod_of_nonneg (by omega)]
          omega
        unfold rB rC sv lv
        by_cases hl : s3.left = 0
        · rw [if_pos hl] at hflo
          have d4 : ((s3.left : Int) == 0) = true := by rw [hl]; rfl
          obtain ⟨s4, hs4⟩ : ∃ s4, s4 = ({ s3 with sent := (s3.sent + 1) % 8 } : St) := ⟨_, rfl⟩
          have c2 := try74 s4
          rw [← hs4] at hflo
          refine Wp.seq (Wp.text (kp 71 (vP 0 0) (kp 72 (vP 0 0) (kp 73 (vP 0 0) (kp 74 (vP 0 7) (kp 75 (vI (St.sent s3)) (kp 76 (vI (IntKind.wrap .i64 ((↑(St.sent s3) : Int) + 1))) (kp 77 (vI (Int.tmod (IntKind.wrap .i64 ((↑(St.sent s3) : Int) + 1)) 8)) (kp 78 (vP 0 0) (kp 79 (vP 0 7) (ld (.tuple #[]) (0) (Blk.mk 92 true [vT, Value.bool (St.first s3), vI (St.win s3), vI (St.wait s3), vI (St.tries s3), vI (St.state s3), vI (St.gen s3), vI (Int.tmod (IntKind.wrap .i64 ((↑(St.sent s3) : Int) + 1)) 8), vI (St.acked s3), vI (St.wanted s3), Value.bool (St.rej s3), Value.bool (St.ren s3), Value.iface 9 (Value.iface (List.length (St.queue s3)) (Value.iface 3 (Value.agg (List.toArray (ss (St.queue s3)))))), Value.iface 9 (Value.iface (List.length (St.out s3)) (Value.iface 3 (Value.agg (List.toArray (ss (St.out s3)))))), vI (St.left s3), vI (St.tried s3)]) (WpOps.nil (thenK_at (Wp.seq (Wp.text (kp 80 (vP 0 0) (kp 81 (vP 0 0) (kp 82 (vP 0 14) (kp 83 (vI (St.left s3)) (kp 84 vT (WpOps.nil (thenK_at (on' (Wp.text (kp 85 (vP 0 0) (cl 86 74 [vP 0 0] ?_)))))) (hop := fun _ => by_fact d4)))))))))))))))))))))
          rw [w1]
          refine WpCall.rf c2 (by kernel_rfl) (by subst hs4; rfl) (by subst hs4; rfl) rfl ?_
          unfold rB rC sv
          try unfold lv
          refine WpOps.nil (blockK_norm (thenK_at ?_))
          exact ⟨s.flo1, by rw [hq1, hql]; exact Nat.lt_succ_self _, ⟨hnx, by rw [hq1]; exact hT'⟩, by rw [hflo]; exact viewR (by kernel_rfl) rfl ⟨⟨by kernel_rfl, rfl⟩, ⟨by subst hs4; kernel_rfl, rfl⟩, trivial⟩⟩
        · rw [if_neg hl] at hflo
          have d4 : ((s3.left : Int) == 0) = false := beq_false_of_ne (by omega)
          refine Wp.seq (Wp.text (kp 71 (vP 0 0) (kp 72 (vP 0 0) (kp 73 (vP 0 0) (kp 74 (vP 0 7) (kp 75 (vI (St.sent s3)) (kp 76 (vI (IntKind.wrap .i64 ((↑(St.sent s3) : Int) + 1))) (kp 77 (vI (Int.tmod (IntKind.wrap .i64 ((↑(St.sent s3) : Int) + 1)) 8)) (kp 78 (vP 0 0) (kp 79 (vP 0 7) (ld (.tuple #[]) (0) (Blk.mk 92 true [vT, Value.bool (St.first s3), vI (St.win s3), vI (St.wait s3), vI (St.tries s3), vI (St.state s3), vI (St.gen s3), vI (Int.tmod (IntKind.wrap .i64 ((↑(St.sent s3) : Int) + 1)) 8), vI (St.acked s3), vI (St.wanted s3), Value.bool (St.rej s3), Value.bool (St.ren s3), Value.iface 9 (Value.iface (List.length (St.queue s3)) (Value.iface 3 (Value.agg (List.toArray (ss (St.queue s3)))))), Value.iface 9 (Value.iface (List.length (St.out s3)) (Value.iface 3 (Value.agg (List.toArray (ss (St.out s3)))))), vI (St.left s3), vI (St.tried s3)]) (WpOps.nil (thenK_at (Wp.seq (Wp.text (kp 80 (vP 0 0) (kp 81 (vP 0 0) (kp 82 (vP 0 14) (kp 83 (vI (St.left s3)) (kp 84 vF (WpOps.nil (thenK_at (off' (Wp.skip (blockK_norm (thenK_at ?_)))))) (hop := fun _ => by_fact d4)))))))))))))))))))))
          rw [w1]
          exact ⟨s.flo1, by rw [hq1, hql]; exact Nat.lt_succ_self _, ⟨hnx, by rw [hq1]; exact hT'⟩, by rw [hflo]; exact viewR (by kernel_rfl) rfl ⟨⟨by kernel_rfl, rfl⟩, ⟨by kernel_rfl, rfl⟩, trivial⟩⟩
  · unfold rB rC sv lv
    refine Wp.seq (Wp.seq (Wp.region (by kernel_rfl) (kp 6 (vP 0 0) (kp 7 (vP 0 0) (kp 8 (vP 0 5) (kp 9 (vI (St.state s)) (kp 10 (.bool ((↑(St.state s) : Int) == 2)) (kp 11 (.bool ((↑(St.state s) : Int) == 2)) ?_))))))))
    refine WpOps.fork 11 ((↑(St.state s) : Int) == 2) [12, 13, 14, 15, 16, 17, 18, 19, 20, 21, 22] 22 (decide ((↑(List.length (St.out s)) : Int) < (↑(St.win s) : Int))) (false) (by kernel_rfl) (fun g22 => ?_) (fun g22 => ?_) (fun f_22 b22 hb22 => ?_)
    · refine kp 12 (vP 0 0) (kp 13 (vP 0 0) (kp 14 (vP 0 13) (kp 15 (sv (St.out s)) (kp 16 (vI (List.length (St.out s))) (kp 17 (vP 0 0) (kp 18 (vP 0 0) (kp 19 (vP 0 2) (kp 20 (vI (St.win s)) (kp 21 (.bool (decide ((↑(List.length (St.out s)) : Int) < (↑(St.win s) : Int)))) (kp 22 (.bool (decide ((↑(List.length (St.out s)) : Int) < (↑(St.win s) : Int)))) (WpOps.nil ?_) (hop := fun _ => o_pickT g22)) (hw := wants_tt g22)) (hw := wants_tt g22)) (hw := wants_tt g22)) (hw := wants_tt g22)) (hw := wants_tt g22)) (hw := wants_tt g22)) (hw := wants_tt g22)) (hw := wants_tt g22)) (hw := wants_tt g22)) (hw := wants_tt g22)
      exact ⟨rfl, (.upd rfl (.upd rfl (.upd rfl (.upd rfl (.upd rfl (.upd rfl (.upd rfl (.upd rfl (.upd rfl (.upd rfl (.upd rfl .refl))))))))))), (by kernel_rfl)⟩
    · refine um 12 (um 13 (um 14 (um 15 (um 16 (um 17 (um 18 (um 19 (um 20 (um 21 (kp 22 vF (WpOps.nil ?_) (hop := fun _ => o_pickF g22)) (hw := wants_ft g22)) (hw := wants_ft g22)) (hw := wants_ft g22)) (hw := wants_ft g22)) (hw := wants_ft g22)) (hw := wants_ft g22)) (hw := wants_ft g22)) (hw := wants_ft g22)) (hw := wants_ft g22)) (hw := wants_ft g22)
      exact ⟨rfl, (.upd rfl (.upd rfl (.upd rfl (.upd rfl (.upd rfl (.upd rfl (.upd rfl (.upd rfl (.upd rfl (.upd rfl (.upd rfl .refl))))))))))), (by kernel_rfl)⟩
    refine kp 23 (.bool b22) ?_
    refine WpOps.fork 7 (b22) [24, 25, 26, 27, 28, 29, 30] 30 (decide ((↑(List.length (St.queue s)) : Int) > 0)) (false) (by kernel_rfl) (fun g30 => ?_) (fun g30 => ?_) (fun f_30 b30 hb30 => ?_)
    · refine kp 24 (vP 0 0) (kp 25 (vP 0 0) (kp 26 (vP 0 12) (kp 27 (sv (St.queue s)) (kp 28 (vI (List.length (St.queue s))) (kp 29 (.bool (decide ((↑(List.length (St.queue s)) : Int) > 0))) (kp 30 (.bool (decide ((↑(List.length (St.queue s)) : Int) > 0))) (WpOps.nil ?_) (hop := fun _ => o_pickT g30)) (hw := wants_tt g30)) (hw := wants_tt g30)) (hw := wants_tt g30)) (hw := wants_tt g30)) (hw := wants_tt g30)) (hw := wants_tt g30)
      exact ⟨rfl, (.upd rfl (.upd rfl (.upd rfl (.upd rfl (.upd rfl (.upd rfl (.upd rfl .refl))))))), (by kernel_rfl)⟩
    · refine um 24 (um 25 (um 26 (um 27 (um 28 (um 29 (kp 30 vF (WpOps.nil ?_) (hop := fun _ => o_pickF g30)) (hw := wants_ft g30)) (hw := wants_ft g30)) (hw := wants_ft g30)) (hw := wants_ft g30)) (hw := wants_ft g30)) (hw := wants_ft g30)
      exact ⟨rfl, (.upd rfl (.upd rfl (.upd rfl (.upd rfl (.upd rfl (.upd rfl (.upd rfl .refl))))))), (by kernel_rfl)⟩
    refine WpOps.nil (thenK_at ?_)
    obtain rfl : b30 = false := by
      rw [hb30, hb22]
      by_cases h1 : s.state = 2
      · by_cases h2 : s.out.length < s.win
        · have h3 : s.queue = [] := by
            cases hq : s.queue with
            | nil => rfl
            | cons d q => exact absurd ⟨h1, h2, by rw [hq]; exact List.cons_ne_nil _ _⟩ hmay
          rw [h3]
          cases ((s.state : Int) == 2) <;> cases decide ((s.out.length : Int) < s.win) <;> rfl
        · rw [show decide ((s.out.length : Int) < s.win) = false from decide_eq_false (by omega)]
          cases ((s.state : Int) == 2) <;> rfl
      · rw [show ((s.state : Int) == 2) = false from beq_false_of_ne (by omega)]
        rfl
    refine off' (Wp.exit (thenK_exit (thenK_exit (blockK_hit (thenK_at (Wp.seq (Wp.text (kp 87 (lv (St.ans s)) (kp 4 (lv (St.ans s)) (WpOps.nil (thenK_at (Wp.ret (endK_retn [Value.iface 61 (Value.iface (List.length (St.ans s)) (Value.iface 3 (Value.agg (List.toArray (evl (St.ans s))))))] (lv (St.ans s)) (by kernel_rfl) (by kernel_rfl) ?_)))))))))))))
    obtain rfl : s = T := by
      rw [← hT]
      cases hq : s.queue.length with
      | zero => rfl
      | succ n => exact (if_neg hmay).symm
    exact endR (by kernel_rfl) rfl (.same rfl) (.same rfl) (.w (.un rfl rfl))
end Go.Proofs.Ytgefohjickhldaa.D
